/- A part of the proof. -/
import Derived.Test.YtggpmlaappaopaaGreatDoorQpMem
namespace Go.Proofs.YtggpmlaappaopaaGreatDoor
def crcR : Nat := 3988292384
def zh (c : Nat) : Nat := if c % 2 = 1 then (c / 2) ^^^ crcR else c / 2
def qak : List Nat := [0, 498536548, 997073096, 651767980, 1994146192, 1802195444, 1303535960, 1342533948, 3988292384, 4027552580, 3604390888, 3412177804, 2607071920, 2262029012, 2685067896, 3183342108]
def nib (c : Nat) : Nat := (c / 16) ^^^ (qak.getD (c % 16) 0)
def qcg (c x : Nat) : Nat := nib (nib (c ^^^ x))
def qo (c : Nat) (l : List Nat) : Nat := l.foldl qcg c
def qu (l : List Nat) : Nat := 4294967295 - qo 4294967295 l
def crcT (y : Nat) : Nat := zh (zh (zh (zh (zh (zh (zh (zh y)))))))
theorem quu (a b : Nat) : (a ^^^ b) / 2 = a / 2 ^^^ b / 2 := by
 have := Nat.shiftRight_xor_distrib (a := a) (b := b) (i := 1)
 simpa [Nat.shiftRight_eq_div_pow] using this
theorem quv (a b : Nat) : (a ^^^ b) % 2 = (a + b) % 2 := by
 have h : (a ^^^ b).testBit 0 = ((a.testBit 0) ^^ (b.testBit 0)) := Nat.testBit_xor ..
 rw [Nat.testBit_zero, Nat.testBit_zero, Nat.testBit_zero] at h
 rcases Nat.mod_two_eq_zero_or_one a with ha | ha <;> rcases Nat.mod_two_eq_zero_or_one b with hb | hb
 ·rw [ha, hb] at h
  have : ¬ (a ^^^ b) % 2 = 1 := of_decide_eq_false h
  omega
 ·rw [ha, hb] at h
  have : (a ^^^ b) % 2 = 1 := of_decide_eq_true h
  omega
 ·rw [ha, hb] at h
  have : (a ^^^ b) % 2 = 1 := of_decide_eq_true h
  omega
 ·rw [ha, hb] at h
  have : ¬ (a ^^^ b) % 2 = 1 := of_decide_eq_false h
  omega
theorem qgl (a b : Nat) : zh (a ^^^ b) = zh a ^^^ zh b := by
 unfold zh
 have hm := quv a b
 rw [quu]
 rcases Nat.mod_two_eq_zero_or_one a with ha | ha <;> rcases Nat.mod_two_eq_zero_or_one b with hb | hb
 ·rw [if_neg (by omega), if_neg (by omega), if_neg (by omega)]
 ·rw [if_pos (by omega), if_neg (by omega), if_pos (by omega), Nat.xor_assoc]
 ·rw [if_pos (by omega), if_pos (by omega), if_neg (by omega), Nat.xor_assoc, Nat.xor_assoc, Nat.xor_comm crcR]
 ·rw [if_neg (by omega), if_pos (by omega), if_pos (by omega)]
  rw [Nat.xor_assoc, Nat.xor_comm crcR, Nat.xor_assoc, Nat.xor_self, Nat.xor_zero]
theorem qbe (h : Nat) : zh (2 * h) = h := by unfold zh; rw [if_neg (by omega)]; omega
theorem qj7 (k c : Nat) : c = (2 ^ k * (c / 2 ^ k)) ^^^ (c % 2 ^ k) := by
 apply Nat.eq_of_testBit_eq
 intro i
 rw [Nat.testBit_xor, Nat.testBit_mod_two_pow, Nat.testBit_two_pow_mul, Nat.testBit_div_two_pow]
 by_cases h : i < k
 ·simp [h, Nat.not_le.2 h]
 ·simp [h, Nat.le_of_not_lt h]
theorem qxf (c : Nat) : nib c = zh (zh (zh (zh c))) := by
 have h := qj7 4 c
 conv => rhs; rw [h]
 simp only [qgl]
 rw [show 2 ^ 4 * (c / 2 ^ 4) = 2 * (2 * (2 * (2 * (c / 16)))) by omega, qbe, qbe, qbe, qbe]
 unfold nib
 congr 1
 have hl : c % 2 ^ 4 < 16 := Nat.mod_lt _ (by decide)
 show qak.getD (c % 2 ^ 4) 0 = _
 generalize c % 2 ^ 4 = y at hl
 have : ∀ y, y < 16 → qak.getD y 0 = zh (zh (zh (zh y))) := by decide
 exact this y hl
theorem qgm (c x : Nat) : qcg c x = crcT (c ^^^ x) := by unfold qcg crcT; rw [qxf, qxf]
theorem quw (a b : Nat) : crcT (a ^^^ b) = crcT a ^^^ crcT b := by unfold crcT; simp only [qgl]
theorem qq1 (h : Nat) : crcT (256 * h) = h := by
 unfold crcT
 rw [show 256 * h = 2 * (2 * (2 * (2 * (2 * (2 * (2 * (2 * h))))))) by omega]
 simp only [qbe]
theorem qho (c x : Nat) : qcg c x = (c / 256) ^^^ crcT ((c % 256) ^^^ x) := by
 rw [qgm]
 have h := qj7 8 c
 conv => lhs; rw [h]
 rw [Nat.xor_assoc, quw, show 2 ^ 8 * (c / 2 ^ 8) = 256 * (c / 256) from rfl, qq1]
theorem qd6 {a b : Nat} (ha : a < 4294967296) (hb : b < 4294967296) : a ^^^ b < 4294967296 := Nat.xor_lt_two_pow (n := 32) ha hb
theorem qap {c : Nat} (h : c < 4294967296) : zh c < 4294967296 := by
 unfold zh
 split
 ·exact qd6 (by omega) (by decide)
 ·omega
theorem qq2 {c : Nat} (h : c < 4294967296) : crcT c < 4294967296 := by
 unfold crcT
 exact qap (qap (qap (qap (qap (qap (qap (qap h)))))))
theorem qlv {c x : Nat} (hc : c < 4294967296) (hx : x < 256) : qcg c x < 4294967296 := by
 rw [qgm]; exact qq2 (qd6 hc (by omega))
theorem qcu : ∀ (l : List Nat) {c : Nat}, c < 4294967296 → (∀ x ∈ l, x < 256) → qo c l < 4294967296
 | [], _, h, _ => h
 | x :: l, _, h, hl => qcu l (qlv h (hl x List.mem_cons_self)) (fun y hy => hl y (List.mem_cons_of_mem _ hy))
theorem qux {c : Nat} (h : c < 4294967296) : c ^^^ 4294967295 = 4294967295 - c := by
 apply Nat.eq_of_testBit_eq
 intro i
 rw [show 4294967295 - c = 2 ^ 32 - (c + 1) by omega, Nat.testBit_xor, Nat.testBit_two_pow_sub_succ (by omega), show (4294967295 : Nat) = 2 ^ 32 - 1 from rfl, Nat.testBit_two_pow_sub_one]
 by_cases hi : i < 32
 ·simp [hi]
 ·have : c.testBit i = false := Nat.testBit_lt_two_pow (Nat.lt_of_lt_of_le h (Nat.pow_le_pow_right (n := 2) (by decide) (by omega : 32 ≤ i)))
  simp [hi, this]
def trimL (l : List Nat) : List Nat := (l.reverse.dropWhile (· == 0)).reverse
theorem qdn (l : List Nat) : trimL (l ++ [0]) = trimL l := by simp [trimL]
theorem qhy {l : List Nat} {x : Nat} (h : x ≠ 0) : trimL (l ++ [x]) = l ++ [x] := by simp [trimL, h]
def qj8 (p : Nat) : List Nat := trimL ((List.range 64).map fun i => p / 2 ^ i % 2)
def sumAt (a b : List Nat) (s i : Nat) : Nat := if s ≤ i ∧ i - s < b.length then (a.getD i 0 + b.getD (i - s) 0) % 2 else a.getD i 0
def sumL (a b : List Nat) (s : Nat) : List Nat := trimL ((List.range (max a.length (b.length + s))).map (sumAt a b s))
def divR : Nat → List Nat → List Nat → List Nat
 | 0, a, _ => a
 | f + 1, a, b => if b.length ≤ a.length then divR f (sumL a b (a.length - b.length)) b else a
def bitsOf (y : Nat) : List Nat := trimL ((List.range 40).map fun i => if 32 ≤ i then y / 2 ^ (39 - i) % 2 else 0)
def genP : List Nat := qj8 4374732215
def qq3 (r : List Nat) : Nat := ((List.range r.length).map fun k => if r.getD k 0 = 1 then 2 ^ (31 - k) else 0).sum
def qad (y : Nat) : Nat := qq3 (divR 41 (bitsOf y) genP)
theorem quy : ((List.range 16).all fun y => qad (y + 0) == crcT (y + 0)) = true := by decide +kernel
theorem quz : ((List.range 16).all fun y => qad (y + 16) == crcT (y + 16)) = true := by decide +kernel
theorem qu0 : ((List.range 16).all fun y => qad (y + 32) == crcT (y + 32)) = true := by decide +kernel
theorem qu1 : ((List.range 16).all fun y => qad (y + 48) == crcT (y + 48)) = true := by decide +kernel
theorem qu2 : ((List.range 16).all fun y => qad (y + 64) == crcT (y + 64)) = true := by decide +kernel
theorem qu3 : ((List.range 16).all fun y => qad (y + 80) == crcT (y + 80)) = true := by decide +kernel
theorem qu4 : ((List.range 16).all fun y => qad (y + 96) == crcT (y + 96)) = true := by decide +kernel
theorem qu5 : ((List.range 16).all fun y => qad (y + 112) == crcT (y + 112)) = true := by decide +kernel
theorem qu6 : ((List.range 16).all fun y => qad (y + 128) == crcT (y + 128)) = true := by decide +kernel
theorem qu7 : ((List.range 16).all fun y => qad (y + 144) == crcT (y + 144)) = true := by decide +kernel
theorem qq4 : ((List.range 16).all fun y => qad (y + 160) == crcT (y + 160)) = true := by decide +kernel
theorem qq5 : ((List.range 16).all fun y => qad (y + 176) == crcT (y + 176)) = true := by decide +kernel
theorem qq6 : ((List.range 16).all fun y => qad (y + 192) == crcT (y + 192)) = true := by decide +kernel
theorem qq7 : ((List.range 16).all fun y => qad (y + 208) == crcT (y + 208)) = true := by decide +kernel
theorem qq8 : ((List.range 16).all fun y => qad (y + 224) == crcT (y + 224)) = true := by decide +kernel
theorem qq9 : ((List.range 16).all fun y => qad (y + 240) == crcT (y + 240)) = true := by decide +kernel
theorem qj9 (y : Nat) (hy : y < 256) : qad y = crcT y := by
 have key : ∀ k, (((List.range 16).all fun y => qad (y + k) == crcT (y + k)) = true) → k ≤ y → y < k + 16 → qad y = crcT y := fun k h h1 h2 => by
  have := eq_of_beq (List.all_eq_true.1 h (y - k) (List.mem_range.2 (by omega)))
  rwa [Nat.sub_add_cancel h1] at this
 by_cases h0 : y < 16
 ·exact key 0 quy (by omega) (by omega)
 by_cases h1 : y < 32
 ·exact key 16 quz (by omega) (by omega)
 by_cases h2 : y < 48
 ·exact key 32 qu0 (by omega) (by omega)
 by_cases h3 : y < 64
 ·exact key 48 qu1 (by omega) (by omega)
 by_cases h4 : y < 80
 ·exact key 64 qu2 (by omega) (by omega)
 by_cases h5 : y < 96
 ·exact key 80 qu3 (by omega) (by omega)
 by_cases h6 : y < 112
 ·exact key 96 qu4 (by omega) (by omega)
 by_cases h7 : y < 128
 ·exact key 112 qu5 (by omega) (by omega)
 by_cases h8 : y < 144
 ·exact key 128 qu6 (by omega) (by omega)
 by_cases h9 : y < 160
 ·exact key 144 qu7 (by omega) (by omega)
 by_cases h10 : y < 176
 ·exact key 160 qq4 (by omega) (by omega)
 by_cases h11 : y < 192
 ·exact key 176 qq5 (by omega) (by omega)
 by_cases h12 : y < 208
 ·exact key 192 qq6 (by omega) (by omega)
 by_cases h13 : y < 224
 ·exact key 208 qq7 (by omega) (by omega)
 by_cases h14 : y < 240
 ·exact key 224 qq8 (by omega) (by omega)
 by_cases h15 : y < 256
 ·exact key 240 qq9 (by omega) (by omega)
 omega
end Go.Proofs.YtggpmlaappaopaaGreatDoor
