/- A part of the proof. -/
import Derived.Test.YtcajpeiobkcliaaGreatDoorQfMem
namespace Go.Proofs.YtcajpeiobkcliaaGreatDoor
def crcR : Nat := 3988292384
def qy (c : Nat) : Nat := if c % 2 = 1 then (c / 2) ^^^ crcR else c / 2
def qbg : List Nat := [0, 498536548, 997073096, 651767980, 1994146192, 1802195444, 1303535960, 1342533948, 3988292384, 4027552580, 3604390888, 3412177804, 2607071920, 2262029012, 2685067896, 3183342108]
def nib (c : Nat) : Nat := (c / 16) ^^^ (qbg.getD (c % 16) 0)
def qbz (c x : Nat) : Nat := nib (nib (c ^^^ x))
def qo (c : Nat) (l : List Nat) : Nat := l.foldl qbz c
def qp (l : List Nat) : Nat := 4294967295 - qo 4294967295 l
def crcT (y : Nat) : Nat := qy (qy (qy (qy (qy (qy (qy (qy y)))))))
theorem qlh (a b : Nat) : (a ^^^ b) / 2 = a / 2 ^^^ b / 2 := by
 have := Nat.shiftRight_xor_distrib (a := a) (b := b) (i := 1)
 simpa [Nat.shiftRight_eq_div_pow] using this
theorem q0y (a b : Nat) : (a ^^^ b) % 2 = (a + b) % 2 := by
 have h : (a ^^^ b).testBit 0 = ((a.testBit 0) ^^ (b.testBit 0)) := Nat.testBit_xor ..
 rw [Nat.testBit_zero, Nat.testBit_zero, Nat.testBit_zero] at h
 rcases Nat.mod_two_eq_zero_or_one a with ha | ha <;> rcases Nat.mod_two_eq_zero_or_one b with hb | hb
 ·rw [ha, hb] at h
  have : ¬ (a ^^^ b) % 2 = 1 := of_decide_eq_false h
  omega
 ·rw [ha, hb] at h
  have : (a ^^^ b) % 2 = 1 := of_decide_eq_true h
  omega
 ·rw [ha, hb] at h
  have : (a ^^^ b) % 2 = 1 := of_decide_eq_true h
  omega
 ·rw [ha, hb] at h
  have : ¬ (a ^^^ b) % 2 = 1 := of_decide_eq_false h
  omega
theorem qex (a b : Nat) : qy (a ^^^ b) = qy a ^^^ qy b := by
 unfold qy
 have hm := q0y a b
 rw [qlh]
 rcases Nat.mod_two_eq_zero_or_one a with ha | ha <;> rcases Nat.mod_two_eq_zero_or_one b with hb | hb
 ·rw [if_neg (by omega), if_neg (by omega), if_neg (by omega)]
 ·rw [if_pos (by omega), if_neg (by omega), if_pos (by omega), Nat.xor_assoc]
 ·rw [if_pos (by omega), if_pos (by omega), if_neg (by omega), Nat.xor_assoc, Nat.xor_assoc, Nat.xor_comm crcR]
 ·rw [if_neg (by omega), if_pos (by omega), if_pos (by omega)]
  rw [Nat.xor_assoc, Nat.xor_comm crcR, Nat.xor_assoc, Nat.xor_self, Nat.xor_zero]
theorem qaw (h : Nat) : qy (2 * h) = h := by unfold qy; rw [if_neg (by omega)]; omega
theorem qia (k c : Nat) : c = (2 ^ k * (c / 2 ^ k)) ^^^ (c % 2 ^ k) := by
 apply Nat.eq_of_testBit_eq
 intro i
 rw [Nat.testBit_xor, Nat.testBit_mod_two_pow, Nat.testBit_two_pow_mul, Nat.testBit_div_two_pow]
 by_cases h : i < k
 ·simp [h, Nat.not_le.2 h]
 ·simp [h, Nat.le_of_not_lt h]
theorem q4b (c : Nat) : nib c = qy (qy (qy (qy c))) := by
 have h := qia 4 c
 conv => rhs; rw [h]
 simp only [qex]
 rw [show 2 ^ 4 * (c / 2 ^ 4) = 2 * (2 * (2 * (2 * (c / 16)))) by omega, qaw, qaw, qaw, qaw]
 unfold nib
 congr 1
 have hl : c % 2 ^ 4 < 16 := Nat.mod_lt _ (by decide)
 show qbg.getD (c % 2 ^ 4) 0 = _
 generalize c % 2 ^ 4 = y at hl
 have : ∀ y, y < 16 → qbg.getD y 0 = qy (qy (qy (qy y))) := by decide
 exact this y hl
theorem qey (c x : Nat) : qbz c x = crcT (c ^^^ x) := by unfold qbz crcT; rw [q4b, q4b]
theorem qrc (a b : Nat) : crcT (a ^^^ b) = crcT a ^^^ crcT b := by unfold crcT; simp only [qex]
theorem qm9 (h : Nat) : crcT (256 * h) = h := by
 unfold crcT
 rw [show 256 * h = 2 * (2 * (2 * (2 * (2 * (2 * (2 * (2 * h))))))) by omega]
 simp only [qaw]
theorem qjr (c x : Nat) : qbz c x = (c / 256) ^^^ crcT ((c % 256) ^^^ x) := by
 rw [qey]
 have h := qia 8 c
 conv => lhs; rw [h]
 rw [Nat.xor_assoc, qrc, show 2 ^ 8 * (c / 2 ^ 8) = 256 * (c / 256) from rfl, qm9]
theorem qdi {a b : Nat} (ha : a < 4294967296) (hb : b < 4294967296) : a ^^^ b < 4294967296 := Nat.xor_lt_two_pow (n := 32) ha hb
theorem z8 {c : Nat} (h : c < 4294967296) : qy c < 4294967296 := by
 unfold qy
 split
 ·exact qdi (by omega) (by decide)
 ·omega
theorem qwj {c : Nat} (h : c < 4294967296) : crcT c < 4294967296 := by
 unfold crcT
 exact z8 (z8 (z8 (z8 (z8 (z8 (z8 (z8 h)))))))
theorem qpk {c x : Nat} (hc : c < 4294967296) (hx : x < 256) : qbz c x < 4294967296 := by
 rw [qey]; exact qwj (qdi hc (by omega))
theorem qc1 : ∀ (l : List Nat) {c : Nat}, c < 4294967296 → (∀ x ∈ l, x < 256) → qo c l < 4294967296
 | [], _, h, _ => h
 | x :: l, _, h, hl => qc1 l (qpk h (hl x List.mem_cons_self)) (fun y hy => hl y (List.mem_cons_of_mem _ hy))
theorem qrd {c : Nat} (h : c < 4294967296) : c ^^^ 4294967295 = 4294967295 - c := by
 apply Nat.eq_of_testBit_eq
 intro i
 rw [show 4294967295 - c = 2 ^ 32 - (c + 1) by omega, Nat.testBit_xor, Nat.testBit_two_pow_sub_succ (by omega), show (4294967295 : Nat) = 2 ^ 32 - 1 from rfl, Nat.testBit_two_pow_sub_one]
 by_cases hi : i < 32
 ·simp [hi]
 ·have : c.testBit i = false := Nat.testBit_lt_two_pow (Nat.lt_of_lt_of_le h (Nat.pow_le_pow_right (n := 2) (by decide) (by omega : 32 ≤ i)))
  simp [hi, this]
def trimL (l : List Nat) : List Nat := (l.reverse.dropWhile (· == 0)).reverse
theorem qez (l : List Nat) : trimL (l ++ [0]) = trimL l := by simp [trimL]
theorem qj4 {l : List Nat} {x : Nat} (h : x ≠ 0) : trimL (l ++ [x]) = l ++ [x] := by simp [trimL, h]
def qna (p : Nat) : List Nat := trimL ((List.range 64).map fun i => p / 2 ^ i % 2)
def sumAt (a b : List Nat) (s i : Nat) : Nat := if s ≤ i ∧ i - s < b.length then (a.getD i 0 + b.getD (i - s) 0) % 2 else a.getD i 0
def sumL (a b : List Nat) (s : Nat) : List Nat := trimL ((List.range (max a.length (b.length + s))).map (sumAt a b s))
def divR : Nat → List Nat → List Nat → List Nat
 | 0, a, _ => a
 | f + 1, a, b => if b.length ≤ a.length then divR f (sumL a b (a.length - b.length)) b else a
def bitsOf (y : Nat) : List Nat := trimL ((List.range 40).map fun i => if 32 ≤ i then y / 2 ^ (39 - i) % 2 else 0)
def genP : List Nat := qna 4374732215
def qwk (r : List Nat) : Nat := ((List.range r.length).map fun k => if r.getD k 0 = 1 then 2 ^ (31 - k) else 0).sum
def qam (y : Nat) : Nat := qwk (divR 41 (bitsOf y) genP)
theorem q0z : ((List.range 16).all fun y => qam (y + 0) == crcT (y + 0)) = true := by decide +kernel
theorem q00 : ((List.range 16).all fun y => qam (y + 16) == crcT (y + 16)) = true := by decide +kernel
theorem q01 : ((List.range 16).all fun y => qam (y + 32) == crcT (y + 32)) = true := by decide +kernel
theorem q02 : ((List.range 16).all fun y => qam (y + 48) == crcT (y + 48)) = true := by decide +kernel
theorem q03 : ((List.range 16).all fun y => qam (y + 64) == crcT (y + 64)) = true := by decide +kernel
theorem q04 : ((List.range 16).all fun y => qam (y + 80) == crcT (y + 80)) = true := by decide +kernel
theorem q05 : ((List.range 16).all fun y => qam (y + 96) == crcT (y + 96)) = true := by decide +kernel
theorem q06 : ((List.range 16).all fun y => qam (y + 112) == crcT (y + 112)) = true := by decide +kernel
theorem q07 : ((List.range 16).all fun y => qam (y + 128) == crcT (y + 128)) = true := by decide +kernel
theorem q08 : ((List.range 16).all fun y => qam (y + 144) == crcT (y + 144)) = true := by decide +kernel
theorem qwl : ((List.range 16).all fun y => qam (y + 160) == crcT (y + 160)) = true := by decide +kernel
theorem qwm : ((List.range 16).all fun y => qam (y + 176) == crcT (y + 176)) = true := by decide +kernel
theorem qwn : ((List.range 16).all fun y => qam (y + 192) == crcT (y + 192)) = true := by decide +kernel
theorem qwo : ((List.range 16).all fun y => qam (y + 208) == crcT (y + 208)) = true := by decide +kernel
theorem qwp : ((List.range 16).all fun y => qam (y + 224) == crcT (y + 224)) = true := by decide +kernel
theorem qwq : ((List.range 16).all fun y => qam (y + 240) == crcT (y + 240)) = true := by decide +kernel
theorem qnb (y : Nat) (hy : y < 256) : qam y = crcT y := by
 have key : ∀ k, (((List.range 16).all fun y => qam (y + k) == crcT (y + k)) = true) → k ≤ y → y < k + 16 → qam y = crcT y := fun k h h1 h2 => by
  have := eq_of_beq (List.all_eq_true.1 h (y - k) (List.mem_range.2 (by omega)))
  rwa [Nat.sub_add_cancel h1] at this
 by_cases h0 : y < 16
 ·exact key 0 q0z (by omega) (by omega)
 by_cases h1 : y < 32
 ·exact key 16 q00 (by omega) (by omega)
 by_cases h2 : y < 48
 ·exact key 32 q01 (by omega) (by omega)
 by_cases h3 : y < 64
 ·exact key 48 q02 (by omega) (by omega)
 by_cases h4 : y < 80
 ·exact key 64 q03 (by omega) (by omega)
 by_cases h5 : y < 96
 ·exact key 80 q04 (by omega) (by omega)
 by_cases h6 : y < 112
 ·exact key 96 q05 (by omega) (by omega)
 by_cases h7 : y < 128
 ·exact key 112 q06 (by omega) (by omega)
 by_cases h8 : y < 144
 ·exact key 128 q07 (by omega) (by omega)
 by_cases h9 : y < 160
 ·exact key 144 q08 (by omega) (by omega)
 by_cases h10 : y < 176
 ·exact key 160 qwl (by omega) (by omega)
 by_cases h11 : y < 192
 ·exact key 176 qwm (by omega) (by omega)
 by_cases h12 : y < 208
 ·exact key 192 qwn (by omega) (by omega)
 by_cases h13 : y < 224
 ·exact key 208 qwo (by omega) (by omega)
 by_cases h14 : y < 240
 ·exact key 224 qwp (by omega) (by omega)
 by_cases h15 : y < 256
 ·exact key 240 qwq (by omega) (by omega)
 omega
end Go.Proofs.YtcajpeiobkcliaaGreatDoor
