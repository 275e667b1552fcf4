/- A part of the proof. -/
import Derived.Test.YtggpmlaappaopaaGreatDoorRows
import Derived.Test.YtggpmlaappaopaaGreatDoorQpMem
namespace Go.Proofs.YtggpmlaappaopaaGreatDoor
theorem ei_u8 : EI Tryz.prog 48 5 (.int .u8 0) 1 1 := ⟨by kernel_rfl, by kernel_rfl, rfl, by omega⟩
theorem zd : EI Tryz.prog 58 22 (.int .u64 0) 1 8 := ⟨by kernel_rfl, by kernel_rfl, rfl, by omega⟩
theorem qbu : EI Tryz.prog 26 3 (.int .i64 0) 1 8 := ⟨by kernel_rfl, by kernel_rfl, rfl, by omega⟩
end Go.Proofs.YtggpmlaappaopaaGreatDoor
