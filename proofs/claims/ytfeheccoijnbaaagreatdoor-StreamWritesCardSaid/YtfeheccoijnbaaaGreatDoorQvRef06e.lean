/- A part of the proof. -/
import Derived.Test.YtfeheccoijnbaaaGreatDoorQvRef06d
namespace Go.Proofs.YtfeheccoijnbaaaGreatDoor
open Go.RowKit
theorem qmz (k : Nat) : (List.range 7).filter (fun i => (usesL k).contains i) = usesL k := by
 obtain rfl | rfl | rfl | rfl | rfl | rfl | rfl | rfl | rfl | rfl | ⟨hu, _⟩ := qhb k
 all_goals first | decide | (rw [hu]; decide)
def upTo (kd k : Nat) : List Nat := (List.range k).filter fun i => (usesL kd).contains i
theorem qps {kd k : Nat} (h : (usesL kd).contains k = true) : upTo kd (k + 1) = upTo kd k ++ [k] := by unfold upTo; rw [List.range_succ, List.filter_append]; simp only [List.filter_cons, h]; rfl
theorem qyv {kd k : Nat} (h : (usesL kd).contains k = false) : upTo kd (k + 1) = upTo kd k := by unfold upTo; rw [List.range_succ, List.filter_append]; simp only [List.filter_cons, h]; simp
theorem qz1 (kd : Nat) : upTo kd 7 = usesL kd := qmz kd
theorem qw0 (kd k : Nat) (hk : k ≤ 7) : (upTo kd k).length ≤ 7 := by unfold upTo; exact Nat.le_trans (List.length_filter_le _ _) (by simp; exact hk)
structure FieldsPost (w : World) (n : Nat) (r : Ending) (w' : World) : Prop where
 ret : ∃ v xs, r = .returned v ∧ w'.ownsRow w.heap.size 9 1 v n xs
 below : Below w.heap.size w w'
end Go.Proofs.YtfeheccoijnbaaaGreatDoor
