/- A part of the proof. -/
import Derived.Test.YtfeheccoijnbaaaDoorRows
import Derived.Test.YtfeheccoijnbaaaDoorQbMem
namespace Go.Proofs.YtfeheccoijnbaaaDoor
theorem ei_u8 : EI Tryd.prog 54 5 (.int .u8 0) 1 1 := ⟨by kernel_rfl, by kernel_rfl, rfl, by omega⟩
theorem qjz : EI Tryd.prog 129 43 (.int .u64 0) 1 8 := ⟨by kernel_rfl, by kernel_rfl, rfl, by omega⟩
theorem qm4 : EI Tryd.prog 49 3 (.int .i64 0) 1 8 := ⟨by kernel_rfl, by kernel_rfl, rfl, by omega⟩
theorem qxo : EI Tryd.prog 200 9 (.string ⟨#[]⟩) 1 16 := ⟨by kernel_rfl, by kernel_rfl, rfl, by omega⟩
end Go.Proofs.YtfeheccoijnbaaaDoor
