/- A part of the proof. -/
import Derived.Test.YtannicghedpdpaaGreatRows
import Derived.Test.YtannicghedpdpaaGreatQsMem
namespace Go.Proofs.YtannicghedpdpaaGreat
theorem qxm : EI Tryz.prog 53 30 (.int .u64 0) 1 8 := ⟨by kernel_rfl, by kernel_rfl, rfl, by omega⟩
theorem zo : EI Tryz.prog 41 3 (.int .i64 0) 1 8 := ⟨by kernel_rfl, by kernel_rfl, rfl, by omega⟩
end Go.Proofs.YtannicghedpdpaaGreat
