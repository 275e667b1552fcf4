/- A part of the proof. -/
import Derived.Test.YtpklccgmjhikeaaGreatDoorRows
import Derived.Test.YtpklccgmjhikeaaGreatDoorQaMem
namespace Go.Proofs.YtpklccgmjhikeaaGreatDoor
theorem ei_u8 : EI Tryz.prog 22 5 (.int .u8 0) 1 1 := ⟨by kernel_rfl, by kernel_rfl, rfl, by omega⟩
theorem qc0 : EI Tryz.prog 124 33 (.int .u64 0) 1 8 := ⟨by kernel_rfl, by kernel_rfl, rfl, by omega⟩
theorem qpv : EI Tryz.prog 25 3 (.int .i64 0) 1 8 := ⟨by kernel_rfl, by kernel_rfl, rfl, by omega⟩
theorem qzp : EI Tryz.prog 203 9 (.string ⟨#[]⟩) 1 16 := ⟨by kernel_rfl, by kernel_rfl, rfl, by omega⟩
end Go.Proofs.YtpklccgmjhikeaaGreatDoor
