/- A part of the proof. -/
import Derived.Test.YtfeheccoijnbaaaGreatDoorRows
import Derived.Test.YtfeheccoijnbaaaGreatDoorQvMem
namespace Go.Proofs.YtfeheccoijnbaaaGreatDoor
theorem ei_u8 : EI Tryz.prog 34 5 (.int .u8 0) 1 1 := ⟨by kernel_rfl, by kernel_rfl, rfl, by omega⟩
theorem qgm : EI Tryz.prog 128 39 (.int .u64 0) 1 8 := ⟨by kernel_rfl, by kernel_rfl, rfl, by omega⟩
theorem qow : EI Tryz.prog 36 3 (.int .i64 0) 1 8 := ⟨by kernel_rfl, by kernel_rfl, rfl, by omega⟩
theorem qy9 : EI Tryz.prog 217 9 (.string ⟨#[]⟩) 1 16 := ⟨by kernel_rfl, by kernel_rfl, rfl, by omega⟩
end Go.Proofs.YtfeheccoijnbaaaGreatDoor
