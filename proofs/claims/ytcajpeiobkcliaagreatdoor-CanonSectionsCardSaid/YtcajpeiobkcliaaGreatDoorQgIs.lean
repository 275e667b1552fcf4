/- A part of the proof. -/
import Derived.Test.YtcajpeiobkcliaaGreatDoorQgSep14
import Derived.Test.YtcajpeiobkcliaaGreatDoorQgVarint
import Derived.Test.YtcajpeiobkcliaaGreatDoorQgCrcP
import Derived.Test.YtcajpeiobkcliaaGreatDoorQgNum
namespace Go.Proofs.YtcajpeiobkcliaaGreatDoor
open Go.RowKit
def le4 (n : Nat) : List Nat := [n % 256, n / 256 % 256, n / 65536 % 256, n / 16777216 % 256]
def sealL (l : List Nat) : List Nat := l ++ le4 (qu l)
def num4 (l : List Nat) : Nat := l.getD 0 0 + 256 * l.getD 1 0 + 65536 * l.getD 2 0 + 16777216 * l.getD 3 0
def qc0 (l : List Nat) : Bool := decide (4 ≤ l.length ∧ qu (l.take (l.length - 4)) = num4 (l.drop (l.length - 4)))
theorem qgj (k : Nat) (h : k < 16) : qaq.getD k 0 < 4294967296 := by
 have : ∀ k, k < 16 → qaq.getD k 0 < 4294967296 := by decide
 exact this k h
def Is (w : World) (v : Value) (r : Ending) (w' : World) : Prop := r = .returned v ∧ Below w.heap.size w w'
def qfz (w : World) (R : List Nat) (r : Ending) (w' : World) : Prop :=
 (∃ A c, r = .returned (.slice A R.length c) ∧ w'.ownsRow w.heap.size 5 1 (.slice A R.length c) R.length (R.map B8) ∧ R.length ≤ c) ∧ Below w.heap.size w w'
theorem qfz.as {w w' : World} {R R' : List Nat} {r : Ending} (h : qfz w R r w') (e : R = R') : qfz w R' r w' := e ▸ h
theorem qr9 (A : Option Addr) (n c : Nat) (ls : List Nat) (w : World) (hr : Rd w w.heap.size 1 A n (ls.map U64)) (hls : ∀ x ∈ ls, x < 18446744073709551616) (hn : 10 * n ≤ 140737488355000) :
  Calls Tryz.prog 39 #[.slice A n c] w (qfz w (ls.flatMap vbytes)) :=
 (qj7 A n c ls w hr hls hn).mono fun e w' ⟨v, h1, h2, h3⟩ => by
  obtain ⟨A, c, rfl, hc⟩ := qec h2
  exact ⟨⟨A, c, h1, h2, hc⟩, h3⟩
theorem qme (c : Nat) (l : List Nat) (x : Nat) : qw c (l ++ [x]) = qdc (qw c l) x := by unfold qw; rw [List.foldl_append]; rfl
theorem qmf {c k : Nat} {l : List Nat} (h : k < l.length) : qw c (l.take (k + 1)) = qdc (qw c (l.take k)) (l.getD k 0) := by
 rw [List.take_add_one, getD_at 0 h]; exact qme _ _ _
theorem qsa {l : List Nat} {m : Nat} (h : ∀ b ∈ l, b < m) (k : Nat) : ∀ b ∈ l.take k, b < m := fun b hb => h b (List.mem_of_mem_take hb)
theorem q1y {c : Nat} (h : c < 4294967296) : nib c < 4294967296 := qej om (qgj _ om)
theorem qkh (l : List Nat) : qu l < 4294967296 := by unfold qu; omega
theorem q1z (n : Nat) : ∀ b ∈ le4 n, b < 256 := by intro b hb; simp [le4] at hb; omega
theorem qi3 (n : Nat) : (le4 n).length = 4 := rfl
theorem qbp (l : List Nat) : (sealL l).length = l.length + 4 := by unfold sealL; rw [List.length_append, qi3]
theorem qzg {l : List Nat} (hl : ∀ b ∈ l, b < 256) : ∀ b ∈ sealL l, b < 256 := by
 intro b hb
 rcases List.mem_append.1 hb with h | h
 ·exact hl b h
 ·exact q1z _ b h
theorem qvu {n : Nat} (h : n < 4294967296) (r : List Nat) : num4 (le4 n ++ r) = n := by simp [num4, le4]; omega
theorem qmg {l : List Nat} : qc0 (sealL l) = true := by
 have hlt : qu l < 4294967296 := qkh l
 have e : (sealL l).length - 4 = l.length := by rw [qbp]; omega
 unfold qc0
 rw [decide_eq_true_eq, e]
 unfold sealL
 refine ⟨by rw [List.length_append, qi3]; omega, ?_⟩
 rw [List.take_left, List.drop_left]
 have := qvu hlt []
 rw [List.append_nil] at this
 exact this.symm
theorem qki (x : Nat) : ∀ b ∈ vbytes x, b < 256 := by
 intro b hb
 unfold vbytes at hb
 obtain ⟨p, hp, rfl⟩ := List.mem_map.1 hb
 have := qrr 10 x p hp
 unfold vbyte
 split <;> omega
structure LaidX (B : Nat) (w : World) : Prop where
 halves : ∀ k, k < 16 → w.cell? ⟨0, k, none⟩ = some (.int .u32 ((qaq.getD k 0 : Nat) : Int))
 big3 : 0 < B
theorem LaidX.qd3 {B : Nat} {w w' : World} (h : LaidX B w) (hk : ∀ p : Addr, p.block < B → w'.cell? p = w.cell? p) : LaidX B w' :=
 ⟨fun k hk' => (hk _ h.big3).trans (h.halves k hk'), h.big3⟩
theorem LaidX.mem {B : Nat} {W w : World} {fs : List Fact} (h : LaidX B W) (hM : Mem W w fs) (hB : B ≤ W.heap.size) : LaidX B w := h.qd3 fun _ hp => hM.below.cell om
theorem LaidX.below {B B' : Nat} {w w' : World} (h : LaidX B w) (hb : Below B' w w') (hB : B ≤ B') : LaidX B w' := h.qd3 fun p hp => hb.cell om
theorem qn1 {B : Nat} {W w : World} {fs : List Fact} (h : LaidX B W) (hM : Mem W w fs) (hB : B ≤ W.heap.size) {k : Nat} (hk : k < 16) : w.cell? ⟨0, k * 1, none⟩ = some (.int .u32 ((qaq.getD k 0 : Nat) : Int)) := by
 rw [Nat.mul_one]; exact (h.mem hM hB).halves k hk
end Go.Proofs.YtcajpeiobkcliaaGreatDoor
