/- A part of the proof. -/
import Derived.Test.YtannicghedpdpaaGreatRows
import Derived.Test.YtannicghedpdpaaGreatQuMem
namespace Go.Proofs.YtannicghedpdpaaGreat
theorem qa6 : EI Tryz.prog 41 3 (.int .i64 0) 1 8 := ⟨by kernel_rfl, by kernel_rfl, rfl, by omega⟩
end Go.Proofs.YtannicghedpdpaaGreat
