/- A part of the proof. -/
import Derived.Test.YtfeheccoijnbaaaGreatDoorQvOneWay
namespace Go.Proofs.YtfeheccoijnbaaaGreatDoor
open Go.RowKit
structure Fit (b : Bs) (e : Ev) : Prop where
 right : b.right = true
 check : e.check = 0
 ok : e.Ok
 behind : b.behind e = true
def Chain (cpu : Nat) : Option Ev → Bs → List Ev → Prop
 | _, _, [] => True
 | p, b, e :: r => Fit b e ∧ e.cpu = cpu ∧ (∀ q, p = some q → q.seq < e.seq) ∧ Chain cpu (some e) e.at r
theorem qg2 {e : Ev} (hc : e.check = 0) : e.at.right = true := by
 obtain ⟨_, _, _, g1, g2, g3, g4⟩ := qdy hc
 unfold Bs.right Ev.at
 rw [decide_eq_true_eq]
 exact ⟨g1, g2, g3, g4⟩
theorem ql0 {cpu : Nat} : ∀ (es : List Ev) (p : Option Ev) (b : Bs) (i : Nat), Chain cpu p b es → (∀ q, p = some q → b = q.at ∧ q.cpu = cpu) → rowGo p i es = (-1, 0)
 | [], _, _, _, _, _ => rfl
 | e :: r, p, b, i, h, hp => by
  obtain ⟨h1, h2, h3, h4⟩ := h
  rw [rowGo, if_neg (by simp [h1.check]), if_neg]
  ·exact ql0 r (some e) e.at (i + 1) h4 (fun q hq => by injection hq with hq; subst hq; exact ⟨rfl, h2⟩)
  ·cases p with
   | none => simp
   | some q =>
    obtain ⟨rfl, hc⟩ := hp q rfl
    have hb := h1.behind
    unfold Bs.behind Ev.at at hb
    simp only [decide_eq_true_eq] at hb
    have := h3 q rfl
    have haf : e.after q = true := by
     unfold Ev.after
     rw [decide_eq_true_eq]
     exact ⟨by rw [h2, hc], this, hb.2⟩
    simp [haf]
theorem ql1 {cpu : Nat} {es : List Ev} {b : Bs} (hb : b.right = true) (h : Chain cpu none b es) : rowR es = (-1, 0) ∧ qz b es = 0 ∧ zo b es = recs b es := by
 have h1 : rowR es = (-1, 0) := ql0 es none b 0 h (fun q hq => by cases hq)
 have h2 : qz b es = 0 := by
  unfold qz
  have hh : es.head?.all b.behind = true := by
   cases es with
   | nil => rfl
   | cons e r => simpa using h.1.behind
  rw [h1, if_neg (by simp), if_pos ⟨hb, hh⟩]
 refine ⟨h1, h2, ?_⟩
 unfold zo
 rw [if_pos h2]
end Go.Proofs.YtfeheccoijnbaaaGreatDoor
