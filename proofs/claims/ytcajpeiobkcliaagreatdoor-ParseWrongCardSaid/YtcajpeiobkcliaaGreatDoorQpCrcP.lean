/- A part of the proof. -/
import Derived.Test.YtcajpeiobkcliaaGreatDoorQpMem
namespace Go.Proofs.YtcajpeiobkcliaaGreatDoor
def crcR : Nat := 3988292384
def za (c : Nat) : Nat := if c % 2 = 1 then (c / 2) ^^^ crcR else c / 2
def qbb : List Nat := [0, 498536548, 997073096, 651767980, 1994146192, 1802195444, 1303535960, 1342533948, 3988292384, 4027552580, 3604390888, 3412177804, 2607071920, 2262029012, 2685067896, 3183342108]
def nib (c : Nat) : Nat := (c / 16) ^^^ (qbb.getD (c % 16) 0)
def qc9 (c x : Nat) : Nat := nib (nib (c ^^^ x))
def qv (c : Nat) (l : List Nat) : Nat := l.foldl qc9 c
def qp (l : List Nat) : Nat := 4294967295 - qv 4294967295 l
def crcT (y : Nat) : Nat := za (za (za (za (za (za (za (za y)))))))
theorem qzy (a b : Nat) : (a ^^^ b) / 2 = a / 2 ^^^ b / 2 := by
 have := Nat.shiftRight_xor_distrib (a := a) (b := b) (i := 1)
 simpa [Nat.shiftRight_eq_div_pow] using this
theorem qzz (a b : Nat) : (a ^^^ b) % 2 = (a + b) % 2 := by
 have h : (a ^^^ b).testBit 0 = ((a.testBit 0) ^^ (b.testBit 0)) := Nat.testBit_xor ..
 rw [Nat.testBit_zero, Nat.testBit_zero, Nat.testBit_zero] at h
 rcases Nat.mod_two_eq_zero_or_one a with ha | ha <;> rcases Nat.mod_two_eq_zero_or_one b with hb | hb
 ·rw [ha, hb] at h
  have : ¬ (a ^^^ b) % 2 = 1 := of_decide_eq_false h
  omega
 ·rw [ha, hb] at h
  have : (a ^^^ b) % 2 = 1 := of_decide_eq_true h
  omega
 ·rw [ha, hb] at h
  have : (a ^^^ b) % 2 = 1 := of_decide_eq_true h
  omega
 ·rw [ha, hb] at h
  have : ¬ (a ^^^ b) % 2 = 1 := of_decide_eq_false h
  omega
theorem qh0 (a b : Nat) : za (a ^^^ b) = za a ^^^ za b := by
 unfold za
 have hm := qzz a b
 rw [qzy]
 rcases Nat.mod_two_eq_zero_or_one a with ha | ha <;> rcases Nat.mod_two_eq_zero_or_one b with hb | hb
 ·rw [if_neg (by omega), if_neg (by omega), if_neg (by omega)]
 ·rw [if_pos (by omega), if_neg (by omega), if_pos (by omega), Nat.xor_assoc]
 ·rw [if_pos (by omega), if_pos (by omega), if_neg (by omega), Nat.xor_assoc, Nat.xor_assoc, Nat.xor_comm crcR]
 ·rw [if_neg (by omega), if_pos (by omega), if_pos (by omega)]
  rw [Nat.xor_assoc, Nat.xor_comm crcR, Nat.xor_assoc, Nat.xor_self, Nat.xor_zero]
theorem qbm (h : Nat) : za (2 * h) = h := by unfold za; rw [if_neg (by omega)]; omega
theorem qmq (k c : Nat) : c = (2 ^ k * (c / 2 ^ k)) ^^^ (c % 2 ^ k) := by
 apply Nat.eq_of_testBit_eq
 intro i
 rw [Nat.testBit_xor, Nat.testBit_mod_two_pow, Nat.testBit_two_pow_mul, Nat.testBit_div_two_pow]
 by_cases h : i < k
 ·simp [h, Nat.not_le.2 h]
 ·simp [h, Nat.le_of_not_lt h]
theorem q3c (c : Nat) : nib c = za (za (za (za c))) := by
 have h := qmq 4 c
 conv => rhs; rw [h]
 simp only [qh0]
 rw [show 2 ^ 4 * (c / 2 ^ 4) = 2 * (2 * (2 * (2 * (c / 16)))) by omega, qbm, qbm, qbm, qbm]
 unfold nib
 congr 1
 have hl : c % 2 ^ 4 < 16 := Nat.mod_lt _ (by decide)
 show qbb.getD (c % 2 ^ 4) 0 = _
 generalize c % 2 ^ 4 = y at hl
 have : ∀ y, y < 16 → qbb.getD y 0 = za (za (za (za y))) := by decide
 exact this y hl
theorem qh1 (c x : Nat) : qc9 c x = crcT (c ^^^ x) := by unfold qc9 crcT; rw [q3c, q3c]
theorem qz0 (a b : Nat) : crcT (a ^^^ b) = crcT a ^^^ crcT b := by unfold crcT; simp only [qh0]
theorem qvn (h : Nat) : crcT (256 * h) = h := by
 unfold crcT
 rw [show 256 * h = 2 * (2 * (2 * (2 * (2 * (2 * (2 * (2 * h))))))) by omega]
 simp only [qbm]
theorem qji (c x : Nat) : qc9 c x = (c / 256) ^^^ crcT ((c % 256) ^^^ x) := by
 rw [qh1]
 have h := qmq 8 c
 conv => lhs; rw [h]
 rw [Nat.xor_assoc, qz0, show 2 ^ 8 * (c / 2 ^ 8) = 256 * (c / 256) from rfl, qvn]
theorem qfi {a b : Nat} (ha : a < 4294967296) (hb : b < 4294967296) : a ^^^ b < 4294967296 := Nat.xor_lt_two_pow (n := 32) ha hb
theorem qat {c : Nat} (h : c < 4294967296) : za c < 4294967296 := by
 unfold za
 split
 ·exact qfi (by omega) (by decide)
 ·omega
theorem qvo {c : Nat} (h : c < 4294967296) : crcT c < 4294967296 := by
 unfold crcT
 exact qat (qat (qat (qat (qat (qat (qat (qat h)))))))
theorem qoz {c x : Nat} (hc : c < 4294967296) (hx : x < 256) : qc9 c x < 4294967296 := by
 rw [qh1]; exact qvo (qfi hc (by omega))
theorem qdr : ∀ (l : List Nat) {c : Nat}, c < 4294967296 → (∀ x ∈ l, x < 256) → qv c l < 4294967296
 | [], _, h, _ => h
 | x :: l, _, h, hl => qdr l (qoz h (hl x List.mem_cons_self)) (fun y hy => hl y (List.mem_cons_of_mem _ hy))
theorem qz1 {c : Nat} (h : c < 4294967296) : c ^^^ 4294967295 = 4294967295 - c := by
 apply Nat.eq_of_testBit_eq
 intro i
 rw [show 4294967295 - c = 2 ^ 32 - (c + 1) by omega, Nat.testBit_xor, Nat.testBit_two_pow_sub_succ (by omega), show (4294967295 : Nat) = 2 ^ 32 - 1 from rfl, Nat.testBit_two_pow_sub_one]
 by_cases hi : i < 32
 ·simp [hi]
 ·have : c.testBit i = false := Nat.testBit_lt_two_pow (Nat.lt_of_lt_of_le h (Nat.pow_le_pow_right (n := 2) (by decide) (by omega : 32 ≤ i)))
  simp [hi, this]
def trimL (l : List Nat) : List Nat := (l.reverse.dropWhile (· == 0)).reverse
theorem qeu (l : List Nat) : trimL (l ++ [0]) = trimL l := by simp [trimL]
theorem qjt {l : List Nat} {x : Nat} (h : x ≠ 0) : trimL (l ++ [x]) = l ++ [x] := by simp [trimL, h]
def qmr (p : Nat) : List Nat := trimL ((List.range 64).map fun i => p / 2 ^ i % 2)
def sumAt (a b : List Nat) (s i : Nat) : Nat := if s ≤ i ∧ i - s < b.length then (a.getD i 0 + b.getD (i - s) 0) % 2 else a.getD i 0
def sumL (a b : List Nat) (s : Nat) : List Nat := trimL ((List.range (max a.length (b.length + s))).map (sumAt a b s))
def divR : Nat → List Nat → List Nat → List Nat
 | 0, a, _ => a
 | f + 1, a, b => if b.length ≤ a.length then divR f (sumL a b (a.length - b.length)) b else a
def bitsOf (y : Nat) : List Nat := trimL ((List.range 40).map fun i => if 32 ≤ i then y / 2 ^ (39 - i) % 2 else 0)
def genP : List Nat := qmr 4374732215
def qvp (r : List Nat) : Nat := ((List.range r.length).map fun k => if r.getD k 0 = 1 then 2 ^ (31 - k) else 0).sum
def qak (y : Nat) : Nat := qvp (divR 41 (bitsOf y) genP)
theorem qz2 : ((List.range 16).all fun y => qak (y + 0) == crcT (y + 0)) = true := by decide +kernel
theorem qz3 : ((List.range 16).all fun y => qak (y + 16) == crcT (y + 16)) = true := by decide +kernel
theorem qz4 : ((List.range 16).all fun y => qak (y + 32) == crcT (y + 32)) = true := by decide +kernel
theorem qz5 : ((List.range 16).all fun y => qak (y + 48) == crcT (y + 48)) = true := by decide +kernel
theorem qz6 : ((List.range 16).all fun y => qak (y + 64) == crcT (y + 64)) = true := by decide +kernel
theorem qz7 : ((List.range 16).all fun y => qak (y + 80) == crcT (y + 80)) = true := by decide +kernel
theorem qz8 : ((List.range 16).all fun y => qak (y + 96) == crcT (y + 96)) = true := by decide +kernel
theorem qz9 : ((List.range 16).all fun y => qak (y + 112) == crcT (y + 112)) = true := by decide +kernel
theorem q0a : ((List.range 16).all fun y => qak (y + 128) == crcT (y + 128)) = true := by decide +kernel
theorem q0b : ((List.range 16).all fun y => qak (y + 144) == crcT (y + 144)) = true := by decide +kernel
theorem qvq : ((List.range 16).all fun y => qak (y + 160) == crcT (y + 160)) = true := by decide +kernel
theorem qvr : ((List.range 16).all fun y => qak (y + 176) == crcT (y + 176)) = true := by decide +kernel
theorem qvs : ((List.range 16).all fun y => qak (y + 192) == crcT (y + 192)) = true := by decide +kernel
theorem qvt : ((List.range 16).all fun y => qak (y + 208) == crcT (y + 208)) = true := by decide +kernel
theorem qvu : ((List.range 16).all fun y => qak (y + 224) == crcT (y + 224)) = true := by decide +kernel
theorem qvv : ((List.range 16).all fun y => qak (y + 240) == crcT (y + 240)) = true := by decide +kernel
theorem qms (y : Nat) (hy : y < 256) : qak y = crcT y := by
 have key : ∀ k, (((List.range 16).all fun y => qak (y + k) == crcT (y + k)) = true) → k ≤ y → y < k + 16 → qak y = crcT y := fun k h h1 h2 => by
  have := eq_of_beq (List.all_eq_true.1 h (y - k) (List.mem_range.2 (by omega)))
  rwa [Nat.sub_add_cancel h1] at this
 by_cases h0 : y < 16
 ·exact key 0 qz2 (by omega) (by omega)
 by_cases h1 : y < 32
 ·exact key 16 qz3 (by omega) (by omega)
 by_cases h2 : y < 48
 ·exact key 32 qz4 (by omega) (by omega)
 by_cases h3 : y < 64
 ·exact key 48 qz5 (by omega) (by omega)
 by_cases h4 : y < 80
 ·exact key 64 qz6 (by omega) (by omega)
 by_cases h5 : y < 96
 ·exact key 80 qz7 (by omega) (by omega)
 by_cases h6 : y < 112
 ·exact key 96 qz8 (by omega) (by omega)
 by_cases h7 : y < 128
 ·exact key 112 qz9 (by omega) (by omega)
 by_cases h8 : y < 144
 ·exact key 128 q0a (by omega) (by omega)
 by_cases h9 : y < 160
 ·exact key 144 q0b (by omega) (by omega)
 by_cases h10 : y < 176
 ·exact key 160 qvq (by omega) (by omega)
 by_cases h11 : y < 192
 ·exact key 176 qvr (by omega) (by omega)
 by_cases h12 : y < 208
 ·exact key 192 qvs (by omega) (by omega)
 by_cases h13 : y < 224
 ·exact key 208 qvt (by omega) (by omega)
 by_cases h14 : y < 240
 ·exact key 224 qvu (by omega) (by omega)
 by_cases h15 : y < 256
 ·exact key 240 qvv (by omega) (by omega)
 omega
end Go.Proofs.YtcajpeiobkcliaaGreatDoor
