/- A part of the proof. -/
import Derived.Test.YtpklccgmjhikeaaGreatDoorQaRef06f
namespace Go.Proofs.YtpklccgmjhikeaaGreatDoor
open Go.RowKit
def Ev.rfill (e : Ev) (l : List (Nat × Nat)) : Ev := l.foldl (fun e p => e.rput p.1 p.2) e
def Ev.rmade (e : Ev) (vs : List Nat) : Ev := e.base.rfill ((usesL e.kind).zip vs)
theorem qvx (o : Ev) (i x : Nat) (h5 : i ≠ 5) (hi : i < 7) : (o.rput i x).fld i = Ev.rval x := by unfold Ev.rput; exact ql8 o i _ x h5 hi
theorem qsc (o : Ev) (i j x : Nat) (hi : i < 7) (hj : j < 7) (h : j ≠ i) : (o.rput i x).fld j = o.fld j := by unfold Ev.rput; exact qjs o i j _ x hi hj h
theorem qi5 (j : Nat) (hj : j < 7) : ∀ (l : List (Nat × Nat)) (o : Ev), (∀ p ∈ l, p.1 < 7 ∧ p.1 ≠ j) → (o.rfill l).fld j = o.fld j
 | [], _, _ => rfl
 | p :: l, o, h => by
  have h1 := h p (by simp)
  have h2 := qi5 j hj l (o.rput p.1 p.2) (fun q hq => h q (by simp [hq]))
  exact h2.trans (qsc o p.1 j p.2 h1.1 hj (fun e => h1.2 e.symm))
theorem qnm (i x : Nat) (h5 : i ≠ 5) : ∀ (l : List (Nat × Nat)) (o : Ev), (∀ p ∈ l, p.1 < 7) → (l.map (·.1)).Nodup → (i, x) ∈ l → (o.rfill l).fld i = Ev.rval x
 | [], _, _, _, h => by simp at h
 | p :: l, o, h7, hd, h => by
  rw [List.map_cons, List.nodup_cons] at hd
  rcases List.mem_cons.1 h with rfl | h
  ·have hi : i < 7 := h7 (i, x) (by simp)
   have h2 := qi5 i hi l (o.rput i x) (fun q hq => ⟨h7 q (by simp [hq]), fun e => hd.1 (by rw [← e]; exact List.mem_map.2 ⟨q, hq, rfl⟩)⟩)
   exact h2.trans (qvx o i x h5 hi)
  ·exact qnm i x h5 l (o.rput p.1 p.2) (fun q hq => h7 q (by simp [hq])) hd.2 h
theorem qsd (e : Ev) (vs : List Nat) : (e.rmade vs).kind = e.kind ∧ (e.rmade vs).seq = e.seq ∧ (e.rmade vs).time = e.time ∧ (e.rmade vs).cpu = e.cpu := by
 have : ∀ (l : List (Nat × Nat)) (o : Ev), (o.rfill l).kind = o.kind ∧ (o.rfill l).seq = o.seq ∧ (o.rfill l).time = o.time ∧ (o.rfill l).cpu = o.cpu := by
  intro l
  induction l with
  | nil => intro o; exact ⟨rfl, rfl, rfl, rfl⟩
  | cons p l ih =>
   intro o
   have h := ih (o.rput p.1 p.2)
   have h2 : (o.rput p.1 p.2).kind = o.kind ∧ (o.rput p.1 p.2).seq = o.seq ∧ (o.rput p.1 p.2).time = o.time ∧ (o.rput p.1 p.2).cpu = o.cpu := by unfold Ev.rput Ev.putV; split <;> exact ⟨rfl, rfl, rfl, rfl⟩
   rw [h2.1, h2.2.1, h2.2.2.1, h2.2.2.2] at h
   exact h
 exact this _ _
theorem qvy (o : Ev) (v v' : Int) (m : Nat) : o.putV 5 v m = o.putV 5 v' m := rfl
theorem qnn {x : Nat} (h : x < 9223372036854775808) : wrap64 (x : Int) = (x : Int) := by rw [← IntWalk.i64_left, IntKind.wrap_i64]; omega
theorem qy1 (o : Ev) (i x : Nat) (h : i = 5 ∨ x < 4611686018427387904) : o.rput i x = o.put i x := by
 unfold Ev.rput Ev.put
 rcases h with rfl | h
 ·exact qvy _ _ _ _
 ·rw [qnn (by omega)]
  unfold Ev.rval
  rw [if_pos h]
theorem qvz {α β : Type} (f g : β → α → β) (l : List α) : ∀ b, (∀ p ∈ l, ∀ b, f b p = g b p) → l.foldl f b = l.foldl g b := by
 induction l with
 | nil => intro b _; rfl
 | cons p l ih => intro b h; rw [List.foldl_cons, List.foldl_cons, h p List.mem_cons_self b]; exact ih _ (fun q hq => h q (List.mem_cons_of_mem _ hq))
def Small (p : Nat × Nat) : Prop := p.1 = 5 ∨ p.2 < 4611686018427387904
theorem qv0 (o : Ev) (p : Nat × Nat) (h : Small p) : o.rput p.1 p.2 = o.put p.1 p.2 := qy1 o p.1 p.2 h
theorem qse (l : List (Nat × Nat)) (o : Ev) (h : ∀ p ∈ l, Small p) : o.rfill l = o.fill l :=
 qvz _ _ l o (fun p hp b => qv0 b p (h p hp))
theorem qno {e : Ev} : ∀ {i : Nat}, i < 7 → i ≠ 5 → e.within i = true → e.fld i ≤ 4294967295
 | 0, _, _, h => by simp only [Ev.within, decide_eq_true_eq] at h; show e.task ≤ _; omega
 | 1, _, _, h => by simp only [Ev.within, decide_eq_true_eq] at h; show e.group ≤ _; omega
 | 2, _, _, h => by simp only [Ev.within, decide_eq_true_eq] at h; show e.to ≤ _; omega
 | 3, _, _, h => by simp only [Ev.within, decide_eq_true_eq] at h; show e.weight ≤ _; omega
 | 4, _, _, h => by simp only [Ev.within, decide_eq_true_eq] at h; show e.ticks ≤ _; omega
 | 5, _, h5, _ => absurd rfl h5
 | n + 6, _, _, h => by simp only [Ev.within, decide_eq_true_eq] at h; show e.got ≤ _; omega
theorem qsf {x : Nat} (h1 : 4611686018427387904 ≤ x) (h2 : x < 18446744073709551616) : wrap64 (x : Int) < 0 ∨ 4611686018427387904 ≤ wrap64 (x : Int) := by rw [← IntWalk.i64_left, IntKind.wrap_i64]; omega
theorem qsg (e : Ev) (vs : List Nat) (hn : vs.length = (usesL e.kind).length) (hv : ∀ x ∈ vs, x < 18446744073709551616) :
  e.rmade vs = e.made vs ∨ ((e.rmade vs).check ≠ 0 ∧ (e.made vs).check ≠ 0) := by
 by_cases h : ∀ p ∈ (usesL e.kind).zip vs, p.1 = 5 ∨ p.2 < 4611686018427387904
 ·exact .inl (qse _ _ h)
 ·right
  simp only [Classical.not_forall, not_or] at h
  obtain ⟨⟨i, x⟩, hm, h5, hx⟩ := h
  have hi := (List.of_mem_zip hm).1
  have h7 := qam _ _ hi
  have hx2 := hv x (List.of_mem_zip hm).2
  have hkeys : ∀ p ∈ (usesL e.kind).zip vs, p.1 < 7 := fun p hp => qam _ _ (List.of_mem_zip hp).1
  have hnd : (((usesL e.kind).zip vs).map (·.1)).Nodup := by rw [List.map_fst_zip (by omega)]; exact qdg _
  have hr : (e.rmade vs).fld i = Ev.rval x := qnm i x h5 _ _ hkeys hnd hm
  have hf : (e.made vs).fld i = wrap64 (x : Int) := qfw i x h5 _ _ hkeys hnd hm
  constructor
  ·intro hc
   have hw := (qaw hc).2.1
   rw [(qsd e vs).1, List.all_eq_true] at hw
   have h0 := zx (hw i hi)
   rw [hr] at h0
   unfold Ev.rval at h0
   rw [if_neg hx] at h0
   omega
  ·intro hc
   have hw := (qaw hc).2.1
   rw [(qc1 e vs).1, List.all_eq_true] at hw
   have h0 := zx (hw i hi)
   have h1 := qno h7 h5 (hw i hi)
   rw [hf] at h0 h1
   rcases qsf (by omega) hx2 with h2 | h2 <;> omega
end Go.Proofs.YtpklccgmjhikeaaGreatDoor
