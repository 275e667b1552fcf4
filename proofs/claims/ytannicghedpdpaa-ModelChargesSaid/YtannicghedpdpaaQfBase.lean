/- A part of the proof. -/
import Derived.Test.YtannicghedpdpaaRows
import Derived.Test.YtannicghedpdpaaQfMem
namespace Go.Proofs.Ytannicghedpdpaa
theorem qaa : EI Try.prog 38 3 (.int .i64 0) 1 8 := ⟨by kernel_rfl, by kernel_rfl, rfl, by omega⟩
end Go.Proofs.Ytannicghedpdpaa
