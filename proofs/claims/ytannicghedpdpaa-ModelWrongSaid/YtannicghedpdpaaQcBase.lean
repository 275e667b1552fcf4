/- A part of the proof. -/
import Derived.Test.YtannicghedpdpaaRows
import Derived.Test.YtannicghedpdpaaQcMem
namespace Go.Proofs.Ytannicghedpdpaa
theorem ei_u8 : EI Try.prog 72 5 (.int .u8 0) 1 1 := ⟨by kernel_rfl, by kernel_rfl, rfl, by omega⟩
theorem zj : EI Try.prog 38 3 (.int .i64 0) 1 8 := ⟨by kernel_rfl, by kernel_rfl, rfl, by omega⟩
end Go.Proofs.Ytannicghedpdpaa
