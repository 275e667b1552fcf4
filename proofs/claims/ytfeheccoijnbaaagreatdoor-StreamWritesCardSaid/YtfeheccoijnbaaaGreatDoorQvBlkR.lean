/- A part of the proof. -/
import Derived.Test.YtfeheccoijnbaaaGreatDoorQvBlkS
namespace Go.Proofs.YtfeheccoijnbaaaGreatDoor
open Go.RowKit
theorem qpg : ∀ {l : List Nat}, (∀ x ∈ l, x < 256) → 4 ≤ l.length → le4 (num4 l) = l.take 4
 | a :: b :: c :: d :: r, hl, _ => by
  have ha := hl a (by simp)
  have hb := hl b (by simp)
  have hc := hl c (by simp)
  have hd := hl d (by simp)
  simp [le4, num4]
  omega
 | [], _, h => by simp at h
 | [_], _, h => by simp at h
 | [_, _], _, h => by simp at h
 | [_, _, _], _, h => by simp at h
theorem take8 : ∀ {l : List Nat} {n : Nat}, 8 ≤ n → n ≤ l.length → l.take n = l.take 4 ++ [l.getD 4 0, l.getD 5 0, l.getD 6 0, l.getD 7 0] ++ (l.take n).drop 8
 | a :: b :: c :: d :: e :: f :: g :: h :: r, n, h1, h2 => by
  obtain ⟨m, rfl⟩ : ∃ m, n = m + 8 := ⟨n - 8, by omega⟩
  simp
 | [], _, _, h => by simp at h; omega
 | [_], _, _, h => by simp at h; omega
 | [_, _], _, _, h => by simp at h; omega
 | [_, _, _], _, _, h => by simp at h; omega
 | [_, _, _, _], _, _, h => by simp at h; omega
 | [_, _, _, _, _], _, _, h => by simp at h; omega
 | [_, _, _, _, _, _], _, _, h => by simp at h; omega
 | [_, _, _, _, _, _, _], _, _, h => by simp at h; omega
theorem qwh {l : List Nat} (hl : ∀ x ∈ l, x < 256) (hn : num4 l = l.length) (h13 : 13 ≤ l.length) {b : Bk} (h4 : l.getD 4 0 = 113) (h5 : l.getD 5 0 = 116) (h6 : l.getD 6 0 = 1) (h7 : l.getD 7 0 = b.kind) (hb : b.body = (l.take (l.length - 4)).drop 8) : b.raw = l.take (l.length - 4) := by
 rw [take8 (by omega) (by omega), ← hb, h4, h5, h6, h7, ← qpg hl (by omega), hn]
 unfold Bk.raw
 have : b.body.length = l.length - 12 := by rw [hb, List.length_drop, List.length_take]; omega
 rw [show 12 + b.body.length = l.length by omega]
theorem qti {l : List Nat} (h : (lenR l).2 = 0) : num4 l = (lenR l).1 ∧ 13 ≤ (lenR l).1 ∧ (lenR l).1 ≤ 4096 ∧ (lenR l).1 ≤ l.length := by
 unfold lenR at h ⊢
 split at h
 ·cases h
 ·split at h
  ·cases h
  ·split at h
   ·cases h
   ·rename_i h1 h2 h3
    rw [if_neg h1, if_neg h2, if_neg h3]
    omega
theorem qtj {l : List Nat} {n : Nat} (h : 4 ≤ n) : num4 (l.take n) = num4 l := by
 have : ∀ i, i < 4 → (l.take n).getD i 0 = l.getD i 0 := fun i hi => by
  rw [List.getD_eq_getElem?_getD, List.getD_eq_getElem?_getD, List.getElem?_take, if_pos (by omega)]
 unfold num4
 rw [this 0 (by omega), this 1 (by omega), this 2 (by omega), this 3 (by omega)]
end Go.Proofs.YtfeheccoijnbaaaGreatDoor
