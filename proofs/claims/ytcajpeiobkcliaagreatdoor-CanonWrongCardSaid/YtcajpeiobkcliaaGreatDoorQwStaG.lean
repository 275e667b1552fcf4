/- A part of the proof. -/
import Derived.Test.YtcajpeiobkcliaaGreatDoorQwStaT
import Derived.Test.YtcajpeiobkcliaaGreatDoorQwRnd1
import Derived.Test.YtcajpeiobkcliaaGreatDoorQwSep18
import Derived.Test.YtcajpeiobkcliaaGreatDoorQwSep16
namespace Go.Proofs.YtcajpeiobkcliaaGreatDoor
open Go.RowKit
section
variable {w w' : World} {p q : Prop} [Decidable p] [Decidable q]
theorem qfk (h : q ↔ p) (hb : Below w.heap.size w w') : Is w (.bool (decide p)) (.returned (.bool (decide q))) w' := ⟨by rw [decide_eq_decide.2 h], hb⟩
theorem qgf (h : p) (hb : Below w.heap.size w w') : Is w (.bool (decide p)) (.returned (.bool true)) w' := ⟨by rw [decide_eq_true h], hb⟩
theorem is_no (h : ¬ p) (hb : Below w.heap.size w w') : Is w (.bool (decide p)) (.returned (.bool false)) w' := ⟨by rw [decide_eq_false h], hb⟩
theorem is_as {a b : Bool} (h : a = b) (hb : Below w.heap.size w w') : Is w (.bool b) (.returned (.bool a)) w' := h ▸ ⟨rfl, hb⟩
end
theorem qiv {l : List Gr} (h : ¬ (1 ≤ l.length ∧ l.length ≤ 256 ∧ l.getD 0 Gr.zero = ⟨0, 1⟩)) : gsOk l = false := by unfold gsOk; rw [decide_eq_false h, Bool.false_and]
theorem qiw {l : List Gr} {g : Nat} (hg : g < l.length) (h : gOk l g = false) : gsOk l = false := by unfold gsOk; rw [qbj hg h, Bool.and_false]
theorem qu9 {l : List Gr} (h : 1 ≤ l.length ∧ l.length ≤ 256 ∧ l.getD 0 Gr.zero = ⟨0, 1⟩) (hu : UpTo l.length (gOk l)) : gsOk l = true := by unfold gsOk; rw [decide_eq_true h, hu.all]; rfl
theorem qva (l : List Gr) : gOk l 0 = true := rfl
theorem qnn {l : List Gr} {g : Nat} (h0 : 0 < g) (h : ¬ (0 ≤ (l.getD g Gr.zero).parent ∧ (l.getD g Gr.zero).parent < g ∧ (1 ≤ (l.getD g Gr.zero).weight ∧ (l.getD g Gr.zero).weight ≤ 65536) ∧ depG l g ≤ 4)) : gOk l g = false := by
 unfold gOk wOk
 rw [Bool.or_eq_false_iff, beq_eq_false_iff_ne, decide_eq_false_iff_not, decide_eq_true_eq]
 exact ⟨by omega, h⟩
theorem qyj {l : List Gr} {g : Nat} (h : 0 ≤ (l.getD g Gr.zero).parent ∧ (l.getD g Gr.zero).parent < g ∧ (1 ≤ (l.getD g Gr.zero).weight ∧ (l.getD g Gr.zero).weight ≤ 65536) ∧ depG l g ≤ 4) : gOk l g = true := by
 unfold gOk wOk
 rw [Bool.or_eq_true, decide_eq_true_eq, decide_eq_true_eq]
 exact .inr h
theorem qrz {l : List Gr} {g : Nat} (hu : UpTo g (gOk l)) (h : 0 ≤ (l.getD g Gr.zero).parent ∧ (l.getD g Gr.zero).parent < g) : ∀ i, 0 < i → i ≤ g → ParB l i := fun i h0 hi => by
 rcases Nat.lt_or_ge i g with h1 | h1
 ·exact qly (hu i h1) h0
 ·obtain rfl : i = g := by omega
  exact h
theorem qae {l : List Gr} (h : gsOk l = true) {g : Nat} (hg : g < l.length) : ∀ i, 0 < i → i ≤ g → ParB l i := fun i h0 hi => qly ((qk h).2.2.2 i om) h0
theorem qno (x y : Gr) : q9 Tryz.prog 4 110 (.agg x.cells) (.agg y.cells) = some (decide (x = y)) := by
 have h : q9 Tryz.prog 4 110 (.agg x.cells) (.agg y.cells) = some ((x.parent == y.parent) && ((x.weight == y.weight) && true)) := by kernel_rfl
 refine h.trans (congrArg some ?_)
 obtain ⟨a, b⟩ := x
 obtain ⟨c, d⟩ := y
 rw [Bool.eq_iff_iff]
 simp only [Bool.and_eq_true, beq_iff_eq, decide_eq_true_eq, Gr.mk.injEq, and_true]
theorem qyk {m n : Nat} (h : 1 ≤ n) : (((m / 2 ^ (n - 1) / 2 : Nat) : Int) != (0 : Int)) = decide (2 ^ n ≤ m) := by
 have e : m / 2 ^ (n - 1) / 2 = m / 2 ^ n := by rw [Nat.div_div_eq_div_mul, ← Nat.pow_succ, show (n - 1).succ = n by omega]
 rw [e, Bool.eq_iff_iff, bne_iff_ne, decide_eq_true_eq]
 have h1 := @Nat.div_pos_iff m (2 ^ n)
 have h2 : 0 < 2 ^ n := Nat.two_pow_pos n
 generalize m / 2 ^ n = q at *
 constructor
 ·intro h3
  exact (h1.1 om).2
 ·intro h3
  have := h1.2 ⟨h2, h3⟩
  omega
section
variable {x : Stm} {t : Tk}
theorem qhx (h : ¬ (1 ≤ t.id ∧ t.id ≤ 65535 ∧ 0 ≤ t.group ∧ t.group < x.rs.length ∧ 0 ≤ t.cpu ∧ t.cpu < x.cpus)) : tkOk1 x.sta t = false := by
 unfold tkOk1
 rw [decide_eq_false (by rwa [show x.sta.sp.length = x.rs.length from List.length_map ..]), Bool.false_and]
theorem q0s (h : ¬ (1 ≤ t.weight ∧ t.weight ≤ 65536)) : tkOk1 x.sta t = false := by unfold tkOk1 wOk; rw [decide_eq_false h, Bool.false_and, Bool.and_false]
theorem q0t (h : 2 ^ x.cpus.toNat ≤ t.mask) : tkOk1 x.sta t = false := by
 unfold tkOk1 qdn
 rw [show decide (2 ^ x.sta.cpus.toNat ≤ t.mask) = true from decide_eq_true h]
 simp
theorem q0u (h : ¬ t.mask / 2 ^ t.cpu.toNat % 2 = 1) : tkOk1 x.sta t = false := by unfold tkOk1; rw [decide_eq_false h]; simp
theorem q0v (h : 1 ≤ t.id ∧ t.id ≤ 65535 ∧ 0 ≤ t.group ∧ t.group < x.rs.length ∧ 0 ≤ t.cpu ∧ t.cpu < x.cpus) (h2 : 1 ≤ t.weight ∧ t.weight ≤ 65536) (h3 : ¬ 2 ^ x.cpus.toNat ≤ t.mask) (h4 : t.mask / 2 ^ t.cpu.toNat % 2 = 1) : tkOk1 x.sta t = entOk t.v t.r t.weight := by
 unfold tkOk1 wOk qdn
 rw [decide_eq_true (by rwa [show x.sta.sp.length = x.rs.length from List.length_map ..]), decide_eq_true h2, show decide (2 ^ x.sta.cpus.toNat ≤ t.mask) = false from decide_eq_false h3, decide_eq_true h4]
 simp
theorem qr0 (h : ¬ (1 ≤ x.cpus ∧ x.cpus ≤ 64 ∧ x.credit ≤ 1099511627776)) : cfgOk x.sta = false := by unfold cfgOk; rw [show decide (1 ≤ x.sta.cpus ∧ x.sta.cpus ≤ 64 ∧ x.sta.credit ≤ 1099511627776) = false from decide_eq_false h]; rfl
theorem qyl (h : 1 ≤ x.cpus ∧ x.cpus ≤ 64 ∧ x.credit ≤ 1099511627776) : cfgOk x.sta = gsOk x.gs := by unfold cfgOk; rw [show decide (1 ≤ x.sta.cpus ∧ x.sta.cpus ≤ 64 ∧ x.sta.credit ≤ 1099511627776) = true from decide_eq_true h]; rfl
theorem zm (h : cfgOk x.sta = true) : 1 ≤ x.cpus ∧ x.cpus ≤ 64 ∧ x.credit ≤ 1099511627776 ∧ gsOk x.gs = true := by
 unfold cfgOk at h
 rw [Bool.and_eq_true, decide_eq_true_eq] at h
 exact ⟨h.1.1, h.1.2.1, h.1.2.2, h.2⟩
end
def BadAt (w : World) (n : Nat) (p : Nat → Bool) (r : Ending) (w' : World) : Prop := (∃ i : Int, r = .returned (.int .i64 i) ∧ decide (i ≥ 0) = !allN n p) ∧ Below w.heap.size w w'
theorem qo8 {w w' : World} {n k : Nat} {p : Nat → Bool} (hk : k < n) (h : p k = false) (hb : Below w.heap.size w w') : BadAt w n p (.returned (.int .i64 (k : Int))) w' := ⟨⟨k, rfl, by rw [qbj hk h, decide_eq_true om]; rfl⟩, hb⟩
theorem qo9 {w w' : World} {n : Nat} {p : Nat → Bool} (hu : UpTo n p) (hb : Below w.heap.size w w') : BadAt w n p (.returned (.int .i64 (-1))) w' := ⟨⟨-1, rfl, by rw [hu.all]; rfl⟩, hb⟩
def qgg (w : World) (l : List Gr) (r : Ending) (w' : World) : Prop := (∃ i e : Int, r = .returned (.tuple #[.int .i64 i, .int .i64 e]) ∧ ((e == 0) = gsOk l)) ∧ Below w.heap.size w w'
theorem qan {w w' : World} {l : List Gr} {i e : Int} (h : gsOk l = false) (he : e ≠ 0) (hb : Below w.heap.size w w') : qgg w l (.returned (.tuple #[.int .i64 i, .int .i64 e])) w' := ⟨⟨i, e, rfl, by rw [h]; exact beq_false_of_ne he⟩, hb⟩
theorem ql6 {w w' : World} {l : List Gr} {i : Int} (h : gsOk l = true) (hb : Below w.heap.size w w') : qgg w l (.returned (.tuple #[.int .i64 i, .int .i64 0])) w' := ⟨⟨i, 0, rfl, by rw [h]; rfl⟩, hb⟩
end Go.Proofs.YtcajpeiobkcliaaGreatDoor
