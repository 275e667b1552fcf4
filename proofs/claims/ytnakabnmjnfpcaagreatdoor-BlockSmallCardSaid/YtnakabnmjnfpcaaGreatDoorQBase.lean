/- A part of the proof. -/
import Derived.Test.YtnakabnmjnfpcaaGreatDoorRows
import Derived.Test.YtnakabnmjnfpcaaGreatDoorQMem
namespace Go.Proofs.YtnakabnmjnfpcaaGreatDoor
theorem ei_u8 : EI Tryz.prog 33 5 (.int .u8 0) 1 1 := ⟨by kernel_rfl, by kernel_rfl, rfl, by omega⟩
theorem qc5 : EI Tryz.prog 57 22 (.int .u64 0) 1 8 := ⟨by kernel_rfl, by kernel_rfl, rfl, by omega⟩
theorem qv8 : EI Tryz.prog 42 9 (.string ⟨#[]⟩) 1 16 := ⟨by kernel_rfl, by kernel_rfl, rfl, by omega⟩
end Go.Proofs.YtnakabnmjnfpcaaGreatDoor
