/- A part of the proof. -/
import Derived.Test.YtnakabnmjnfpcaaDoorCardTellsBQBlkS
namespace Go.Proofs.YtnakabnmjnfpcaaDoor
open Go.RowKit
theorem lenR_ok {l : List Nat} (h : (lenR l).2 = 0) : num4 l = (lenR l).1 ∧ 13 ≤ (lenR l).1 ∧ (lenR l).1 ≤ 4096 ∧ (lenR l).1 ≤ l.length := by
  unfold lenR at h ⊢
  split at h
  · cases h
  · split at h
    · cases h
    · split at h
      · cases h
      · rename_i h1 h2 h3
        rw [if_neg h1, if_neg h2, if_neg h3]
        omega
end Go.Proofs.YtnakabnmjnfpcaaDoor
