/- What the walks must know of this translation's slice types. -/
import Derived.Test.YtjpielapplglmaaDoorRows
import Derived.Test.YtjpielapplglmaaDoorMem
namespace Go.Proofs.YtjpielapplglmaaDoor
theorem ei_u8 : EI Tryd.prog 22 5 (.int .u8 0) 1 1 := ⟨by kernel_rfl, by kernel_rfl, rfl, by omega⟩
theorem ei_u64 : EI Tryd.prog 85 53 (.int .u64 0) 1 8 := ⟨by kernel_rfl, by kernel_rfl, rfl, by omega⟩
theorem ei_int : EI Tryd.prog 82 3 (.int .i64 0) 1 8 := ⟨by kernel_rfl, by kernel_rfl, rfl, by omega⟩
theorem ei_str : EI Tryd.prog 153 9 (.string ⟨#[]⟩) 1 16 := ⟨by kernel_rfl, by kernel_rfl, rfl, by omega⟩
end Go.Proofs.YtjpielapplglmaaDoor
