/- A part of the proof. -/
import Derived.Test.YtcajpeiobkcliaaGreatDoorQfBlkE
namespace Go.Proofs.YtcajpeiobkcliaaGreatDoor
theorem qs0 : ∀ (n : Nat) {c : Nat}, c < 4294967296 → bitsN n c < 4294967296
 | 0, _, h => h
 | n + 1, _, h => qs0 n (z8 h)
def bitF (c : Nat) : Nat := cond (Nat.beq (c % 2) 1) ((c / 2) ^^^ 3988292384) (c / 2)
theorem qzz (c : Nat) : bitF c = qy c := by
 unfold bitF qy crcR
 by_cases h : c % 2 = 1
 ·rw [if_pos h, h]; rfl
 ·rw [if_neg h, show c % 2 = 0 by omega]; rfl
inductive Tri where
 | e : Tri
 | l : Nat → Tri
 | n : Tri → Tri → Tri
def Tri.ins : Nat → Nat → Nat → Tri → Option Tri
 | _, v, _, .e => some (.l v)
 | 0, _, _, _ => none
 | f + 1, v, d, .l x => cond (Nat.beq x v) none (cond (Nat.beq (x / d % 2) 0) (Tri.ins f v d (.n (.l x) .e)) (Tri.ins f v d (.n .e (.l x))))
 | f + 1, v, d, .n a b => cond (Nat.beq (v / d % 2) 0) ((Tri.ins f v (d * 2) a).map fun a => .n a b) ((Tri.ins f v (d * 2) b).map fun b => .n a b)
def Tri.find (v : Nat) : Nat → Tri → Bool
 | _, .e => false
 | _, .l x => Nat.beq x v
 | d, .n a b => cond (Nat.beq (v / d % 2) 0) (find v (d * 2) a) (find v (d * 2) b)
theorem qek {a b : Nat} (h : a ≠ b) : Nat.beq a b = false := by
 cases hx : Nat.beq a b with
 | false => rfl
 | true => exact absurd (Nat.eq_of_beq_eq_true hx) h
theorem q7k : ∀ (f v d : Nat) (t t' : Tri), Tri.ins f v d t = some t' → Tri.find v d t = false ∧ ∀ y, Tri.find y d t' = (Nat.beq v y || Tri.find y d t) := by
 intro f
 induction f with
 | zero =>
  intro v d t t' h
  cases t with
  | e => simp only [Tri.ins, Option.some.injEq] at h; subst h; exact ⟨rfl, fun y => by simp [Tri.find]⟩
  | l x => simp [Tri.ins] at h
  | n a b => simp [Tri.ins] at h
 | succ f ih =>
  intro v d t t' h
  cases t with
  | e => simp only [Tri.ins, Option.some.injEq] at h; subst h; exact ⟨rfl, fun y => by simp [Tri.find]⟩
  | l x =>
   rw [Tri.ins] at h
   cases hxv : Nat.beq x v with
   | true => rw [hxv] at h; cases h
   | false =>
    rw [hxv] at h
    have key : ∀ s : Tri, (∀ y, Tri.find y d s = Nat.beq x y) → Tri.ins f v d s = some t' → Tri.find v d (.l x) = false ∧ ∀ y, Tri.find y d t' = (Nat.beq v y || Tri.find y d (.l x)) := fun s hs hi => by
     obtain ⟨_, h2⟩ := ih v d s t' hi
     exact ⟨hxv, fun y => by rw [h2 y, hs y]; rfl⟩
    cases hb : Nat.beq (x / d % 2) 0 with
    | true =>
     rw [hb] at h
     refine key _ (fun y => ?_) h
     rw [Tri.find]
     cases hy : Nat.beq (y / d % 2) 0 with
     | true => rfl
     | false =>
      refine (qek ?_).symm
      intro e; subst e; rw [hb] at hy; cases hy
    | false =>
     rw [hb] at h
     refine key _ (fun y => ?_) h
     rw [Tri.find]
     cases hy : Nat.beq (y / d % 2) 0 with
     | false => rfl
     | true =>
      refine (qek ?_).symm
      intro e; subst e; rw [hb] at hy; cases hy
  | n a b =>
   rw [Tri.ins] at h
   cases hb : Nat.beq (v / d % 2) 0 with
   | true =>
    rw [hb] at h
    obtain ⟨a', ha, rfl⟩ := Option.map_eq_some_iff.1 h
    obtain ⟨h1, h2⟩ := ih v (d * 2) a a' ha
    refine ⟨by rw [Tri.find, hb]; exact h1, fun y => ?_⟩
    rw [Tri.find, Tri.find]
    cases hy : Nat.beq (y / d % 2) 0 with
    | true => exact h2 y
    | false =>
     rw [qek (a := v) (b := y) (by intro e; subst e; rw [hb] at hy; cases hy)]; rfl
   | false =>
    rw [hb] at h
    obtain ⟨b', ha, rfl⟩ := Option.map_eq_some_iff.1 h
    obtain ⟨h1, h2⟩ := ih v (d * 2) b b' ha
    refine ⟨by rw [Tri.find, hb]; exact h1, fun y => ?_⟩
    rw [Tri.find, Tri.find]
    cases hy : Nat.beq (y / d % 2) 0 with
    | false => exact h2 y
    | true =>
     rw [qek (a := v) (b := y) (by intro e; subst e; rw [hb] at hy; cases hy)]; rfl
def nodG (j : Nat) : Nat → Nat → Tri → Bool
 | 0, _, _ => true
 | n + 1, r, t => cond (Nat.beq (r / 2 % 4) j) (match Tri.ins 70 (r / 8) 1 t with
  | none => false
  | some t => nodG j n (bitF r) t) (nodG j n (bitF r) t)
theorem qmq (j : Nat) : ∀ (n r : Nat) (t : Tri), nodG j n r t = true → (∀ i, i < n → bitsN i r / 2 % 4 = j → Tri.find (bitsN i r / 8) 1 t = false) ∧
  (∀ i k, i < k → k < n → bitsN i r / 2 % 4 = j → bitsN k r / 2 % 4 = j → bitsN i r / 8 ≠ bitsN k r / 8) := by
 intro n
 induction n with
 | zero => intro r t _; exact ⟨fun i h => absurd h (Nat.not_lt_zero _), fun i k _ h => absurd h (Nat.not_lt_zero _)⟩
 | succ n ih =>
  intro r t h
  rw [nodG] at h
  cases hj : Nat.beq (r / 2 % 4) j with
  | false =>
   rw [hj] at h
   obtain ⟨h1, h2⟩ := ih (bitF r) t h
   rw [qzz] at h1 h2
   have hne : r / 2 % 4 ≠ j := Nat.ne_of_beq_eq_false hj
   refine ⟨fun i hi hq => ?_, fun i k hik hk hq hq2 => ?_⟩
   ·cases i with
    | zero => exact absurd hq hne
    | succ i => exact h1 i om hq
   ·cases i with
    | zero => exact absurd hq hne
    | succ i =>
     cases k with
     | zero => omega
     | succ k => exact h2 i k om om hq hq2
  | true =>
   rw [hj] at h
   have h : (match Tri.ins 70 (r / 8) 1 t with | none => false | some t => nodG j n (bitF r) t) = true := h
   cases hi : Tri.ins 70 (r / 8) 1 t with
   | none => rw [hi] at h; cases h
   | some t' =>
    rw [hi] at h
    obtain ⟨g1, g2⟩ := q7k _ _ _ _ _ hi
    obtain ⟨h1, h2⟩ := ih (bitF r) t' h
    rw [qzz] at h1 h2
    have h3 : ∀ i, i < n → bitsN i (qy r) / 2 % 4 = j → r / 8 ≠ bitsN i (qy r) / 8 ∧ Tri.find (bitsN i (qy r) / 8) 1 t = false := fun i hi hq => by
     have := h1 i hi hq
     rw [g2] at this
     rw [Bool.or_eq_false_iff] at this
     exact ⟨Nat.ne_of_beq_eq_false this.1, this.2⟩
    refine ⟨fun i hi hq => ?_, fun i k hik hk hq hq2 => ?_⟩
    ·cases i with
     | zero => exact g1
     | succ i => exact (h3 i om hq).2
    ·cases k with
     | zero => omega
     | succ k =>
      cases i with
      | zero => exact (h3 k om hq2).1
      | succ i => exact h2 i k om om hq hq2
set_option maxRecDepth 1000000 in
theorem nod0 : nodG 0 32768 1 .e = true := by decide +kernel
set_option maxRecDepth 1000000 in
theorem nod1 : nodG 1 32768 1 .e = true := by decide +kernel
set_option maxRecDepth 1000000 in
theorem nod2 : nodG 2 32768 1 .e = true := by decide +kernel
set_option maxRecDepth 1000000 in
theorem nod3 : nodG 3 32768 1 .e = true := by decide +kernel
theorem qz0 {i k : Nat} (hik : i < k) (hk : k < 32768) : bitsN i 1 / 2 ≠ bitsN k 1 / 2 := by
 intro h
 have hj : bitsN i 1 / 2 % 4 = bitsN k 1 / 2 % 4 := by rw [h]
 have h8 : bitsN i 1 / 8 = bitsN k 1 / 8 := by omega
 have hc : bitsN k 1 / 2 % 4 = 0 ∨ bitsN k 1 / 2 % 4 = 1 ∨ bitsN k 1 / 2 % 4 = 2 ∨ bitsN k 1 / 2 % 4 = 3 := by omega
 rcases hc with hc | hc | hc | hc
 ·exact (qmq 0 _ _ _ nod0).2 i k hik hk (hj.trans hc) hc h8
 ·exact (qmq 1 _ _ _ nod1).2 i k hik hk (hj.trans hc) hc h8
 ·exact (qmq 2 _ _ _ nod2).2 i k hik hk (hj.trans hc) hc h8
 ·exact (qmq 3 _ _ _ nod3).2 i k hik hk (hj.trans hc) hc h8
theorem qdc {N a b c : Nat} (hab : a < b) (hbc : b < c) (hc : c < N) (hN : N ≤ 32768) : bitsN N (2 ^ a ^^^ 2 ^ b ^^^ 2 ^ c) ≠ 0 := by
 intro h
 have hp : ∀ k m, k + m = N → bitsN N (2 ^ k) = bitsN m 1 := fun k m hm => by
  have := qf5 k m 1
  rw [hm, Nat.mul_one] at this
  exact this
 rw [qbq, qbq, hp a (N - a) om, hp b (N - b) om, hp c (N - c) om] at h
 have e1 : bitsN (N - a) 1 = bitsN (N - c) (bitsN (c - a) 1) := by rw [← qf4]; congr 1; omega
 have e2 : bitsN (N - b) 1 = bitsN (N - c) (bitsN (c - b) 1) := by rw [← qf4]; congr 1; omega
 rw [e1, e2, ← qbq, ← qbq] at h
 have lt : ∀ n, bitsN n 1 < 4294967296 := fun n => qs0 n de
 have h0 : bitsN (c - a) 1 ^^^ bitsN (c - b) 1 ^^^ 1 = 0 := by
  rcases Nat.eq_zero_or_pos (bitsN (c - a) 1 ^^^ bitsN (c - b) 1 ^^^ 1) with h9 | h9
  ·exact h9
  ·exact absurd h (qf6 _ (qdi (qdi (lt _) (lt _)) de) om)
 have h1 : (bitsN (c - a) 1 ^^^ bitsN (c - b) 1 ^^^ 1) / 2 = 0 := by rw [h0]
 rw [qlh, qlh, show 1 / 2 = 0 from rfl, Nat.xor_zero] at h1
 have h2 : bitsN (c - b) 1 / 2 = bitsN (c - a) 1 / 2 := by
  have := congrArg (· ^^^ (bitsN (c - b) 1 / 2)) h1
  simp only [Nat.xor_assoc, Nat.xor_self, Nat.xor_zero, Nat.zero_xor] at this
  exact this.symm
 exact qz0 (i := c - b) (k := c - a) om om h2
theorem qqt {N a : Nat} (ha : a < N) : bitsN N (2 ^ a) ≠ 0 := by
 have := qf5 a (N - a) 1
 rw [show a + (N - a) = N by omega, Nat.mul_one] at this
 rw [this]
 exact qf6 _ de de
theorem qz1 {N a b c : Nat} (ha : a < N) (hb : b < N) (hc : c < N) (hN : N ≤ 32768) : bitsN N (2 ^ a ^^^ 2 ^ b ^^^ 2 ^ c) ≠ 0 := by
 by_cases hab : a = b
 ·subst hab; rw [Nat.xor_self, Nat.zero_xor]; exact qqt hc
 by_cases hbc : b = c
 ·subst hbc; rw [Nat.xor_assoc, Nat.xor_self, Nat.xor_zero]; exact qqt ha
 by_cases hac : a = c
 ·subst hac; rw [Nat.xor_comm (2 ^ a) (2 ^ b), Nat.xor_assoc, Nat.xor_self, Nat.xor_zero]; exact qqt hb
 have c12 : ∀ x y z : Nat, x ^^^ y ^^^ z = y ^^^ x ^^^ z := fun x y z => by rw [Nat.xor_comm x y]
 have c23 : ∀ x y z : Nat, x ^^^ y ^^^ z = x ^^^ z ^^^ y := fun x y z => by rw [Nat.xor_assoc, Nat.xor_comm y z, ← Nat.xor_assoc]
 rcases Nat.lt_or_gt_of_ne hab with h1 | h1 <;> rcases Nat.lt_or_gt_of_ne hbc with h2 | h2 <;> rcases Nat.lt_or_gt_of_ne hac with h3 | h3
 ·exact qdc h1 h2 hc hN
 ·omega
 ·rw [c23]; exact qdc h3 h2 hb hN
 ·rw [c23, c12]; exact qdc h3 h1 hb hN
 ·rw [c12]; exact qdc h1 h3 hc hN
 ·rw [c12, c23]; exact qdc h2 h3 ha hN
 ·omega
 ·rw [c12, c23, c12]; exact qdc h2 h1 ha hN
end Go.Proofs.YtcajpeiobkcliaaGreatDoor
