/- A part of the proof. -/
import Derived.Test.YtieeckeaijdaeaaGreatDoorRows
import Derived.Test.YtieeckeaijdaeaaGreatDoorQaMem
namespace Go.Proofs.YtieeckeaijdaeaaGreatDoor
theorem aM:EI Tryz.prog 35 5 (.int .u8 0) 1 1:=⟨by kernel_rfl,by kernel_rfl,rfl,by omega⟩
theorem zz:EI Tryz.prog 146 30 (.int .u64 0) 1 8:=⟨by kernel_rfl,by kernel_rfl,rfl,by omega⟩
theorem rH:EI Tryz.prog 22 3 (.int .i64 0) 1 8:=⟨by kernel_rfl,by kernel_rfl,rfl,by omega⟩
theorem q59:EI Tryz.prog 261 9 (.string ⟨#[]⟩) 1 16:=⟨by kernel_rfl,by kernel_rfl,rfl,by omega⟩
end Go.Proofs.YtieeckeaijdaeaaGreatDoor
