/- A part of the proof. -/
import Derived.Test.YtcajpeiobkcliaaGreatDoorQfCrcP
import Derived.Test.YtcajpeiobkcliaaGreatDoorQfIs
namespace Go.Proofs.YtcajpeiobkcliaaGreatDoor
open Go.RowKit
def numL : List Nat → Nat
 | [] => 0
 | b :: l => b + 256 * numL l
def bitsN : Nat → Nat → Nat
 | 0, c => c
 | n + 1, c => bitsN n (qy c)
theorem qbq : ∀ (n a b : Nat), bitsN n (a ^^^ b) = bitsN n a ^^^ bitsN n b
 | 0, _, _ => rfl
 | n + 1, a, b => by rw [bitsN, bitsN, bitsN, qex, qbq n]
theorem qf4 : ∀ (m n c : Nat), bitsN (m + n) c = bitsN n (bitsN m c)
 | 0, n, c => by rw [Nat.zero_add]; rfl
 | m + 1, n, c => by rw [show m + 1 + n = (m + n) + 1 by omega, bitsN, bitsN, qf4 m n]
theorem q7i (n c : Nat) : bitsN (8 + n) c = bitsN n (crcT c) := by rw [qf4]; rfl
theorem qf5 : ∀ (k n q : Nat), bitsN (k + n) (2 ^ k * q) = bitsN n q
 | 0, n, q => by rw [Nat.zero_add, Nat.pow_zero, Nat.one_mul]
 | k + 1, n, q => by rw [show k + 1 + n = (k + n) + 1 by omega, bitsN, Nat.pow_succ, show 2 ^ k * 2 * q = 2 * (2 ^ k * q) by rw [Nat.mul_comm (2 ^ k) 2, Nat.mul_assoc], qaw, qf5 k n q]
theorem qqs {c : Nat} (h : c < 4294967296) (h0 : c ≠ 0) : qy c ≠ 0 := by
 unfold qy
 split
 ·intro hx
  have h1 : c / 2 = crcR := by
   have := congrArg (· ^^^ crcR) hx
   simpa [Nat.xor_assoc] using this
  unfold crcR at h1
  omega
 ·omega
theorem qf6 : ∀ (n : Nat) {c : Nat}, c < 4294967296 → c ≠ 0 → bitsN n c ≠ 0
 | 0, _, _, h0 => h0
 | n + 1, _, h, h0 => qf6 n (z8 h) (qqs h h0)
theorem qjc {x N : Nat} (hx : x < 256) : x + 256 * N = (256 * N) ^^^ x := by
 have h := qia 8 (x + 256 * N)
 have e1 : (x + 256 * N) / 2 ^ 8 = N := by rw [show (2 : Nat) ^ 8 = 256 from rfl]; omega
 have e2 : (x + 256 * N) % 2 ^ 8 = x := by rw [show (2 : Nat) ^ 8 = 256 from rfl]; omega
 rw [e1, e2] at h
 exact h
theorem qmo : ∀ (l : List Nat) (c : Nat), (∀ x ∈ l, x < 256) → qo c l = bitsN (8 * l.length) (c ^^^ numL l)
 | [], c, _ => by simp [qo, bitsN, numL]
 | x :: l, c, h => by
  have hx := h x (by simp)
  have ih := qmo l (qbz c x) (fun y hy => h y (by simp [hy]))
  show qo (qbz c x) l = _
  rw [ih, List.length_cons, Nat.mul_add, Nat.mul_one, Nat.add_comm (8 * l.length) 8, q7i, numL, qjc hx, Nat.xor_comm (256 * numL l) x, ← Nat.xor_assoc, qrc, qm9, qey]
theorem qzy {l : List Nat} (h : l.length = 4) : numL l = num4 l := by
 match l, h with
 | [a, b, c, d], _ => simp only [numL, num4, List.getD_cons_zero, List.getD_cons_succ]; omega
theorem qmp (c : Nat) (l m : List Nat) : qo c (l ++ m) = qo (qo c l) m := by unfold qo; rw [List.foldl_append]
theorem qk1 {l : List Nat} (hl : ∀ x ∈ l, x < 256) (h : q7 l = true) : qo 4294967295 l = bitsN 32 4294967295 := by
 unfold q7 at h
 rw [decide_eq_true_eq] at h
 obtain ⟨h4, h⟩ := h
 have hd : (l.drop (l.length - 4)).length = 4 := by rw [List.length_drop]; omega
 have hdl : ∀ x ∈ l.drop (l.length - 4), x < 256 := fun x hx => hl x (List.mem_of_mem_drop hx)
 have hR : qo 4294967295 (l.take (l.length - 4)) < 4294967296 := qc1 _ de (fun x hx => hl x (List.mem_of_mem_take hx))
 conv => lhs; rw [← List.take_append_drop (l.length - 4) l]
 rw [qmp, qmo _ _ hdl, hd, qzy hd, ← h]
 unfold qp
 rw [← qrd hR, ← Nat.xor_assoc, Nat.xor_self, Nat.zero_xor]
theorem qvk {l m : List Nat} (hl : ∀ x ∈ l, x < 256) (hm : ∀ x ∈ m, x < 256) (he : m.length = l.length) (h1 : q7 l = true) (h2 : q7 m = true) : bitsN (8 * l.length) (numL l ^^^ numL m) = 0 := by
 have e1 := qk1 hl h1
 have e2 := qk1 hm h2
 rw [qmo _ _ hl, qbq] at e1
 rw [qmo _ _ hm, he, qbq] at e2
 have h3 := e1.trans e2.symm
 have h4 := congrArg (bitsN (8 * l.length) 4294967295 ^^^ ·) h3
 simp only [← Nat.xor_assoc, Nat.xor_self, Nat.zero_xor] at h4
 rw [qbq, h4, Nat.xor_self]
def flipL (l : List Nat) (k : Nat) : List Nat := l.set (k / 8) (l.getD (k / 8) 0 ^^^ 2 ^ (k % 8))
theorem qo0 (l : List Nat) (k : Nat) : (flipL l k).length = l.length := by unfold flipL; simp
theorem qk2 (k : Nat) : 2 ^ (k % 8) < 256 := by
 have h : 2 ^ (k % 8) < 2 ^ 8 := Nat.pow_lt_pow_right de (Nat.mod_lt _ de)
 exact h
theorem qvl {l : List Nat} (hl : ∀ x ∈ l, x < 256) (j : Nat) : l.getD j 0 < 256 := by
 rcases Nat.lt_or_ge j l.length with h | h
 ·exact hl _ (qg 0 h)
 ·rw [List.getD_eq_getElem?_getD, List.getElem?_eq_none om]; decide
theorem qsy {l : List Nat} (hl : ∀ x ∈ l, x < 256) (k : Nat) : ∀ x ∈ flipL l k, x < 256 := by
 intro x hx
 unfold flipL at hx
 rcases List.mem_or_eq_of_mem_set hx with h | h
 ·exact hl x h
 ·subst h; exact Nat.xor_lt_two_pow (n := 8) (qvl hl _) (qk2 k)
theorem qvm (a b : Nat) : 256 * (a ^^^ b) = 256 * a ^^^ 256 * b := by
 apply Nat.eq_of_testBit_eq
 intro i
 rw [show (256 : Nat) = 2 ^ 8 from rfl, Nat.testBit_xor, Nat.testBit_two_pow_mul, Nat.testBit_two_pow_mul, Nat.testBit_two_pow_mul, Nat.testBit_xor]
 cases decide (i ≥ 8) <;> simp
theorem qsz : ∀ (l : List Nat) (j y : Nat), (∀ x ∈ l, x < 256) → y < 256 → j < l.length → numL (l.set j (l.getD j 0 ^^^ y)) = numL l ^^^ (256 ^ j * y)
 | [], _, _, _, _, h => by simp at h
 | x :: l, 0, y, hl, hy, _ => by
  have hx := hl x (by simp)
  rw [List.getD_cons_zero, List.set_cons_zero, numL, numL, qjc (Nat.xor_lt_two_pow (n := 8) hx hy), qjc hx, Nat.pow_zero, Nat.one_mul, Nat.xor_assoc]
 | x :: l, j + 1, y, hl, hy, h => by
  have hx := hl x (by simp)
  have ih := qsz l j y (fun z hz => hl z (by simp [hz])) hy (by simpa using h)
  rw [List.getD_cons_succ, List.set_cons_succ, numL, numL, ih, qjc hx, qjc hx, qvm, Nat.pow_succ, Nat.mul_comm (256 ^ j) 256, Nat.mul_assoc, Nat.xor_assoc, Nat.xor_assoc, Nat.xor_comm x]
theorem qf7 {l : List Nat} {k : Nat} (hl : ∀ x ∈ l, x < 256) (h : k / 8 < l.length) : numL (flipL l k) = numL l ^^^ 2 ^ k := by
 unfold flipL
 rw [qsz l (k / 8) (2 ^ (k % 8)) hl (qk2 k) h]
 congr 1
 rw [show (256 : Nat) = 2 ^ 8 from rfl, ← Nat.pow_mul, ← Nat.pow_add]
 congr 1
 omega
def qae (l : List Nat) (at0 p : Nat) : Nat → List Nat
 | 0 => l
 | i + 1 => if at0 + i < 8 * l.length ∧ p / 2 ^ i % 2 = 1 then flipL (qae l at0 p i) (at0 + i) else qae l at0 p i
theorem z9 (l : List Nat) (at0 p : Nat) : ∀ i, (qae l at0 p i).length = l.length
 | 0 => rfl
 | i + 1 => by
  rw [qae]
  split
  ·rw [qo0, z9]
  ·exact z9 l at0 p i
theorem qdb {l : List Nat} (hl : ∀ x ∈ l, x < 256) (at0 p : Nat) : ∀ i, ∀ x ∈ qae l at0 p i, x < 256
 | 0 => hl
 | i + 1 => by
  rw [qae]
  split
  ·exact qsy (qdb hl at0 p i) _
  ·exact qdb hl at0 p i
theorem q3p (p i : Nat) : p % 2 ^ (i + 1) = (p % 2 ^ i) ^^^ (if p / 2 ^ i % 2 = 1 then 2 ^ i else 0) := by
 apply Nat.eq_of_testBit_eq
 intro j
 rw [Nat.testBit_xor, Nat.testBit_mod_two_pow, Nat.testBit_mod_two_pow]
 have hb : p.testBit i = decide (p / 2 ^ i % 2 = 1) := by rw [Nat.testBit_eq_decide_div_mod_eq]
 by_cases hc : p / 2 ^ i % 2 = 1
 ·rw [if_pos hc, Nat.testBit_two_pow]
  rw [decide_eq_true hc] at hb
  rcases Nat.lt_trichotomy j i with h | h | h
  ·simp [h, Nat.lt_succ_of_lt h, Nat.ne_of_gt h]
  ·subst h; simp [hb]
  ·simp [Nat.not_lt.2 (Nat.le_of_lt h), show ¬ j < i + 1 by omega, Nat.ne_of_lt h]
 ·rw [if_neg hc, Nat.zero_testBit, Bool.xor_false]
  rw [decide_eq_false hc] at hb
  rcases Nat.lt_trichotomy j i with h | h | h
  ·simp [h, Nat.lt_succ_of_lt h]
  ·subst h; simp [hb]
  ·simp [Nat.not_lt.2 (Nat.le_of_lt h), show ¬ j < i + 1 by omega]
theorem q7j (k a b : Nat) : 2 ^ k * (a ^^^ b) = 2 ^ k * a ^^^ 2 ^ k * b := by
 apply Nat.eq_of_testBit_eq
 intro i
 rw [Nat.testBit_xor, Nat.testBit_two_pow_mul, Nat.testBit_two_pow_mul, Nat.testBit_two_pow_mul, Nat.testBit_xor]
 cases decide (i ≥ k) <;> simp
theorem qk3 {l : List Nat} (hl : ∀ x ∈ l, x < 256) {at0 : Nat} (h0 : at0 < 8 * l.length) (p : Nat) : ∀ i, numL (qae l at0 p i) = numL l ^^^ 2 ^ at0 * (p % 2 ^ min i (8 * l.length - at0))
 | 0 => by rw [qae, Nat.zero_min, Nat.pow_zero, Nat.mod_one, Nat.mul_zero, Nat.xor_zero]
 | i + 1 => by
  have ih := qk3 hl h0 p i
  rw [qae]
  by_cases h1 : at0 + i < 8 * l.length
  ·rw [show min (i + 1) (8 * l.length - at0) = i + 1 by omega, q3p]
   rw [show min i (8 * l.length - at0) = i by omega] at ih
   by_cases h2 : p / 2 ^ i % 2 = 1
   ·rw [if_pos ⟨h1, h2⟩, if_pos h2, qf7 (qdb hl at0 p i) (by rw [z9]; omega), ih, q7j, ← Nat.pow_add, Nat.xor_assoc]
   ·rw [if_neg (fun hh => h2 hh.2), if_neg h2, ih, Nat.xor_zero]
  ·rw [if_neg (fun hh => h1 hh.1), ih, show min (i + 1) (8 * l.length - at0) = min i (8 * l.length - at0) by omega]
theorem qjd {l m : List Nat} (hl : ∀ x ∈ l, x < 256) (hm : ∀ x ∈ m, x < 256) (he : m.length = l.length) (h1 : q7 l = true) (h2 : bitsN (8 * l.length) (numL l ^^^ numL m) ≠ 0) : q7 m = false := by
 cases h : q7 m with
 | false => rfl
 | true => exact absurd (qvk hl hm he h1 h) h2
theorem qju {l : List Nat} (hl : ∀ x ∈ l, x < 256) (h1 : q7 l = true) {at0 p : Nat} (h0 : at0 < 8 * l.length) (hp : p % 2 = 1) : q7 (qae l at0 p 32) = false := by
 refine qjd hl (qdb hl at0 p 32) (z9 l at0 p 32) h1 ?_
 rw [qk3 hl h0 p 32, ← Nat.xor_assoc, Nat.xor_self, Nat.zero_xor]
 obtain ⟨n, hn⟩ : ∃ n, 8 * l.length = at0 + n := ⟨8 * l.length - at0, by omega⟩
 obtain ⟨m, hm⟩ : ∃ m, min 32 (8 * l.length - at0) = m + 1 := ⟨min 32 (8 * l.length - at0) - 1, by omega⟩
 rw [hm, hn, qf5]
 refine qf6 n ?_ ?_
 ·have h2 : p % 2 ^ (m + 1) < 2 ^ (m + 1) := Nat.mod_lt _ (Nat.two_pow_pos _)
  have h3 : 2 ^ (m + 1) ≤ 2 ^ 32 := Nat.pow_le_pow_right de om
  exact Nat.lt_of_lt_of_le h2 h3
 ·have h2 : p % 2 ^ (m + 1) % 2 = p % 2 := Nat.mod_mod_of_dvd _ ⟨2 ^ m, by rw [Nat.pow_succ, Nat.mul_comm]⟩
  omega
end Go.Proofs.YtcajpeiobkcliaaGreatDoor
