/- A part of the proof. -/
import Derived.Test.YtggpmlaappaopaaGreatDoorQcDoorE
namespace Go.Proofs.YtggpmlaappaopaaGreatDoor
open Go.RowKit Go.ChangeShapes Go.WideShapes Go.ChangeAt
section
variable {H : Type} {enc : TypeId × Value → H} {P : Program} {W : World} {sp : Nat → Bool} {held : Bool}
theorem flat_get {sz : Nat} : ∀ (css : List (List Value)), (∀ l ∈ css, l.length = sz) → ∀ p u, (css.flatMap id)[p]? = some u → ∃ i j, ∃ hi : i < css.length, j < sz ∧ p = i * sz + j ∧ css[i][j]? = some u := by
 intro css
 induction css with
 | nil => intro _ p u h; simp at h
 | cons l r ih =>
  intro h p u hu
  have hll := h l (by simp)
  rw [List.flatMap_cons] at hu
  by_cases hp : p < sz
  ·rw [List.getElem?_append_left (by simp only [id]; omega)] at hu
   exact ⟨0, p, by simp, hp, by omega, hu⟩
  ·rw [List.getElem?_append_right (by simp only [id]; omega)] at hu
   simp only [id] at hu
   rw [hll] at hu
   obtain ⟨i, j, hi, hj, hpj, hu'⟩ := ih (fun y hy => h y (by simp [hy])) _ u hu
   exact ⟨i + 1, j, by simp; omega, hj, by rw [Nat.succ_mul]; omega, by simpa using hu'⟩
theorem qn9 {sz : Nat} : ∀ (css : List (List Value)), (∀ l ∈ css, l.length = sz) → (css.flatMap id).length = css.length * sz := by
 intro css
 induction css with
 | nil => simp
 | cons l r ih => intro h; rw [List.flatMap_cons, List.length_append, ih (fun y hy => h y (by simp [hy])), List.length_cons, Nat.succ_mul]; have := h l (by simp); simp only [id]; omega
theorem qa7 {α : Type} (f : α → List Value) (Ok : α → Prop) {t e : TypeId} {sz : Nat} (ht : P.underlying t = some (.slice e)) (hsz : P.cellsOf e = sz) (h0 : 0 < sz) (hf : ∀ x, (f x).length = sz)
  (hE : ∀ m l y, DataW.trod enc P W 0 sp held m e l = some y → ∃ x, f x = l ∧ Ok x) {fuel : Nat} {cs : List Value} {x : DataW H × List MemPlace} (h : DataW.trod enc P W 0 sp held fuel t cs = some x) :
  ∃ (A : Option Addr) (c : Nat) (l : List α), cs = [.slice A l.length c] ∧ l.length ≤ c ∧ c ≤ maxLen ∧ (∀ x ∈ l, Ok x) ∧ Rd W W.heap.size sz A l.length (l.flatMap f) := by
 rcases DataW.trod_slice ht h with ⟨hc, _⟩ | ⟨a, len, cap, elems, rest, m, _, hc, _, _, hl, hm, hlen, hel, _⟩
 ·exact ⟨none, 0, [], hc, Nat.le_refl _, by unfold maxLen; omega, by simp, Rd.nil⟩
 ·have hall : ∀ i, i < len → ∃ x : α, W.cells? 0 (a.add (i * sz)) sz = some (f x) ∧ Ok x := by
   intro i hi
   have h1 := hel i hi
   rw [hsz, List.getElem?_eq_getElem (by omega : i < elems.length)] at h1
   obtain ⟨l, h2, h3⟩ := Option.bind_eq_some_iff.1 h1
   obtain ⟨x, rfl, hx⟩ := hE _ _ _ h3
   exact ⟨x, h2, hx⟩
  have key : ∀ k, k ≤ len → ∃ xs : List α, xs.length = k ∧ ∀ i (hi : i < xs.length), W.cells? 0 (a.add (i * sz)) sz = some (f xs[i]) ∧ Ok xs[i] := by
   intro k
   induction k with
   | zero => intro _; exact ⟨[], rfl, fun i hi => by simp at hi⟩
   | succ k ih =>
    intro hk
    obtain ⟨xs, h1, h2⟩ := ih (by omega)
    obtain ⟨x, h3, h4⟩ := hall k (by omega)
    refine ⟨xs ++ [x], by simp [h1], fun i hi => ?_⟩
    by_cases hik : i < xs.length
    ·rw [List.getElem_append_left hik]; exact h2 i hik
    ·obtain rfl : i = xs.length := by simp at hi; omega
     rw [List.getElem_append_right (Nat.le_refl _)]
     simp only [Nat.sub_self, List.getElem_cons_zero, h1]
     exact ⟨h3, h4⟩
  obtain ⟨xs, h1, h2⟩ := key len (Nat.le_refl _)
  have hfm : xs.flatMap f = (xs.map f).flatMap id := by rw [List.flatMap_map]; rfl
  have hll : ∀ l ∈ xs.map f, l.length = sz := fun l hl' => by obtain ⟨x, _, rfl⟩ := List.mem_map.1 hl'; exact hf x
  have hat : ∀ i (hi : i < xs.length) j, j < sz → W.cell? (a.add (i * sz + j)) = (f xs[i])[j]? := by
   intro i hi j hj
   have := (World.cells?_some (h2 i hi).1).2.2 j hj
   rwa [qh7] at this
  refine ⟨some a, cap, xs, by rw [hc, h1], by omega, hm, fun x hx => by obtain ⟨i, hi, rfl⟩ := List.getElem_of_mem hx; exact (h2 i hi).2, ⟨by rw [hfm, qn9 _ hll, List.length_map], fun hn => ⟨a, rfl, ?_, ?_⟩⟩⟩
  ·have h3 := hat 0 hn 0 h0
   have h4 := hf xs[0]
   rw [List.getElem?_eq_getElem (by omega)] at h3
   have := World.block_lt_of_cell? W _ h3
   simpa [Addr.add] using this
  ·intro p u hu
   rw [hfm] at hu
   obtain ⟨i, j, hi, hj, rfl, hu'⟩ := flat_get _ hll p u hu
   rw [List.length_map] at hi
   rw [hat i hi j hj, ← hu', List.getElem_map]
end
end Go.Proofs.YtggpmlaappaopaaGreatDoor
