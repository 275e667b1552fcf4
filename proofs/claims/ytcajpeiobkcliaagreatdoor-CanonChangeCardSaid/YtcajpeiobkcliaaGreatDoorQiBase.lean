/- A part of the proof. -/
import Derived.Test.YtcajpeiobkcliaaGreatDoorRows
import Derived.Test.YtcajpeiobkcliaaGreatDoorQiMem
namespace Go.Proofs.YtcajpeiobkcliaaGreatDoor
theorem ei_u8:EI Tryz.prog 43 5 (.int .u8 0) 1 1:=⟨by kernel_rfl,by kernel_rfl,rfl,by omega⟩
theorem qat:EI Tryz.prog 47 30 (.int .u64 0) 1 8:=⟨by kernel_rfl,by kernel_rfl,rfl,by omega⟩
theorem ze:EI Tryz.prog 34 3 (.int .i64 0) 1 8:=⟨by kernel_rfl,by kernel_rfl,rfl,by omega⟩
end Go.Proofs.YtcajpeiobkcliaaGreatDoor
