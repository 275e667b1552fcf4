/- A part of the proof. -/
import Derived.Test.YtekiimhdnigmcaaGreatDoorRows
import Derived.Test.YtekiimhdnigmcaaGreatDoorQwMem
namespace Go.Proofs.YtekiimhdnigmcaaGreatDoor
theorem aX:EI Tryz.prog 30 5 (.int .u8 0) 1 1:=⟨by kernel_rfl,by kernel_rfl,rfl,by omega⟩
theorem kP:EI Tryz.prog 117 41 (.int .u64 0) 1 8:=⟨by kernel_rfl,by kernel_rfl,rfl,by omega⟩
theorem zy:EI Tryz.prog 38 3 (.int .i64 0) 1 8:=⟨by kernel_rfl,by kernel_rfl,rfl,by omega⟩
end Go.Proofs.YtekiimhdnigmcaaGreatDoor
