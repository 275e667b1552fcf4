/- A part of the proof. -/
import Derived.Test.YtggpmlaappaopaaGreatDoorQpSep14
import Derived.Test.YtggpmlaappaopaaGreatDoorQpVarint
import Derived.Test.YtggpmlaappaopaaGreatDoorQpCrcP
import Derived.Test.YtggpmlaappaopaaGreatDoorQpNum
namespace Go.Proofs.YtggpmlaappaopaaGreatDoor
open Go.RowKit
def le4 (n : Nat) : List Nat := [n % 256, n / 256 % 256, n / 65536 % 256, n / 16777216 % 256]
def sealL (l : List Nat) : List Nat := l ++ le4 (qu l)
def num4 (l : List Nat) : Nat := l.getD 0 0 + 256 * l.getD 1 0 + 65536 * l.getD 2 0 + 16777216 * l.getD 3 0
def zb (l : List Nat) : Bool := decide (4 ≤ l.length ∧ qu (l.take (l.length - 4)) = num4 (l.drop (l.length - 4)))
theorem qgn (k : Nat) (h : k < 16) : qak.getD k 0 < 4294967296 := by
 have : ∀ k, k < 16 → qak.getD k 0 < 4294967296 := by decide
 exact this k h
def Is (w : World) (v : Value) (r : Ending) (w' : World) : Prop := r = .returned v ∧ Below w.heap.size w w'
def qat (w : World) (R : List Nat) (r : Ending) (w' : World) : Prop :=
 (∃ A c, r = .returned (.slice A R.length c) ∧ w'.ownsRow w.heap.size 5 1 (.slice A R.length c) R.length (R.map B8) ∧ R.length ≤ c) ∧ Below w.heap.size w w'
theorem qat.as {w w' : World} {R R' : List Nat} {r : Ending} (h : qat w R r w') (e : R = R') : qat w R' r w' := e ▸ h
theorem qka {w w' : World} {R xs : List Nat} {n c : Nat} {A : Option Addr} (ho : w'.ownsRow w.heap.size 5 1 (.slice A n c) n (xs.map B8)) (hc : n ≤ c) (hn : n = R.length) (hx : xs = R) (hb : Below w.heap.size w w') : qat w R (.returned (.slice A n c)) w' := by
 subst hx; subst hn
 exact ⟨⟨A, c, rfl, ho, hc⟩, hb⟩
theorem qlw (c : Nat) (l : List Nat) (x : Nat) : qo c (l ++ [x]) = qcg (qo c l) x := by unfold qo; rw [List.foldl_append]; rfl
theorem qgo {c k : Nat} {l : List Nat} (h : k < l.length) : qo c (l.take (k + 1)) = qcg (qo c (l.take k)) (l.getD k 0) := by
 rw [List.take_add_one, getD_at 0 h]; exact qlw _ _ _
theorem qe6 {l : List Nat} {m : Nat} (h : ∀ b ∈ l, b < m) (k : Nat) : ∀ b ∈ l.take k, b < m := fun b hb => h b (List.mem_of_mem_take hb)
theorem qys {l : List Nat} {m : Nat} (h : ∀ b ∈ l, b < m) (k : Nat) : ∀ b ∈ l.drop k, b < m := fun b hb => h b (List.mem_of_mem_drop hb)
theorem q09 {c : Nat} (h : c < 4294967296) : nib c < 4294967296 := qd6 (by omega) (qgn _ (by omega))
theorem qkb (l : List Nat) : qu l < 4294967296 := by unfold qu; omega
theorem q1a (n : Nat) : ∀ b ∈ le4 n, b < 256 := by intro b hb; simp [le4] at hb; omega
theorem qra (n : Nat) : (le4 n).length = 4 := rfl
theorem ze (l : List Nat) : (sealL l).length = l.length + 4 := by unfold sealL; rw [List.length_append, qra]
theorem zw {l : List Nat} (hl : ∀ b ∈ l, b < 256) : ∀ b ∈ sealL l, b < 256 := by
 intro b hb
 rcases List.mem_append.1 hb with h | h
 ·exact hl b h
 ·exact q1a _ b h
theorem qu8 : ∀ {l : List Nat}, (∀ x ∈ l, x < 256) → 4 ≤ l.length → le4 (num4 l) = l.take 4
 | a :: b :: c :: d :: r, hl, _ => by
  have ha := hl a (by simp)
  have hb := hl b (by simp)
  have hc := hl c (by simp)
  have hd := hl d (by simp)
  simp [le4, num4]
  omega
 | [], _, h => by simp at h
 | [_], _, h => by simp at h
 | [_, _], _, h => by simp at h
 | [_, _, _], _, h => by simp at h
theorem qu9 {n : Nat} (h : n < 4294967296) (r : List Nat) : num4 (le4 n ++ r) = n := by simp [num4, le4]; omega
theorem qva {l : List Nat} (hl : ∀ x ∈ l, x < 256) (h : 4 ≤ l.length) : le4 (num4 (l.drop (l.length - 4))) = l.drop (l.length - 4) := by
 have h1 : (l.drop (l.length - 4)).length = 4 := by rw [List.length_drop]; omega
 rw [qu8 (qys hl _) (by omega), List.take_of_length_le (by omega)]
theorem qrb {l : List Nat} (hl : ∀ x ∈ l, x < 256) (h : zb l = true) : sealL (l.take (l.length - 4)) = l := by
 unfold zb at h
 rw [decide_eq_true_eq] at h
 unfold sealL
 rw [h.2, qva hl h.1, List.take_append_drop]
theorem qlx {l : List Nat} : zb (sealL l) = true := by
 have hlt : qu l < 4294967296 := qkb l
 have e : (sealL l).length - 4 = l.length := by rw [ze]; omega
 unfold zb
 rw [decide_eq_true_eq, e]
 unfold sealL
 refine ⟨by rw [List.length_append, qra]; omega, ?_⟩
 rw [List.take_left, List.drop_left]
 have := qu9 hlt []
 rw [List.append_nil] at this
 exact this.symm
theorem qrc (x : Nat) : ∀ b ∈ vbytes x, b < 256 := by
 intro b hb
 unfold vbytes at hb
 obtain ⟨p, hp, rfl⟩ := List.mem_map.1 hb
 have := qxa 10 x p hp
 unfold vbyte
 split <;> omega
theorem qgp {l m : List Nat} (hl : ∀ b ∈ l, b < 256) (hm : ∀ b ∈ m, b < 256) : ((bstr l).toList == (bstr m).toList) = decide (l = m) := by
 rw [Bool.eq_iff_iff, beq_iff_eq, decide_eq_true_eq]
 constructor
 ·intro h
  refine qur hl hm ?_
  rw [ByteArray.toList_eq, ByteArray.toList_eq] at h
  cases hx : bstr l; cases hy : bstr m
  rw [hx, hy] at h
  simpa using h
 ·rintro rfl; rfl
structure LaidX (B : Nat) (w : World) : Prop where
 halves : ∀ k, k < 16 → w.cell? ⟨0, k, none⟩ = some (.int .u32 ((qak.getD k 0 : Nat) : Int))
 big3 : 0 < B
theorem LaidX.qdv {B : Nat} {w w' : World} (h : LaidX B w) (hk : ∀ p : Addr, p.block < B → w'.cell? p = w.cell? p) : LaidX B w' :=
 ⟨fun k hk' => (hk _ h.big3).trans (h.halves k hk'), h.big3⟩
theorem LaidX.mem {B : Nat} {W w : World} {fs : List Fact} (h : LaidX B W) (hM : Mem W w fs) (hB : B ≤ W.heap.size) : LaidX B w := h.qdv fun _ hp => hM.below.cell (by omega)
theorem LaidX.below {B B' : Nat} {w w' : World} (h : LaidX B w) (hb : Below B' w w') (hB : B ≤ B') : LaidX B w' := h.qdv fun p hp => hb.cell (by omega)
theorem qm8 {B : Nat} {W w : World} {fs : List Fact} (h : LaidX B W) (hM : Mem W w fs) (hB : B ≤ W.heap.size) {k : Nat} (hk : k < 16) : w.cell? ⟨0, k * 1, none⟩ = some (.int .u32 ((qak.getD k 0 : Nat) : Int)) := by
 rw [Nat.mul_one]; exact (h.mem hM hB).halves k hk
end Go.Proofs.YtggpmlaappaopaaGreatDoor
