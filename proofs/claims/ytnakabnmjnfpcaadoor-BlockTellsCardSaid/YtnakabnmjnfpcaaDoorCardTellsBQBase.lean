/- A part of the proof. -/
import Derived.Test.YtnakabnmjnfpcaaDoorRows
import Derived.Test.YtnakabnmjnfpcaaDoorCardTellsBQMem
namespace Go.Proofs.YtnakabnmjnfpcaaDoor
theorem ei_u8 : EI Tryd.prog 22 5 (.int .u8 0) 1 1 := ⟨by kernel_rfl, by kernel_rfl, rfl, by omega⟩
theorem ei_u64 : EI Tryd.prog 72 44 (.int .u64 0) 1 8 := ⟨by kernel_rfl, by kernel_rfl, rfl, by omega⟩
theorem ei_str : EI Tryd.prog 129 9 (.string ⟨#[]⟩) 1 16 := ⟨by kernel_rfl, by kernel_rfl, rfl, by omega⟩
end Go.Proofs.YtnakabnmjnfpcaaDoor
