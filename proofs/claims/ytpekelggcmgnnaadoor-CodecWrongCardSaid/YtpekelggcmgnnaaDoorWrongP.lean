/- Plain: rows with one event that is wrong; bases that are wrong. -/
import Derived.Test.YtpekelggcmgnnaaDoorShiftP
import Derived.Test.YtpekelggcmgnnaaDoorSep6
namespace Go.Proofs.YtpekelggcmgnnaaDoor
open Go.RowKit

theorem ev_facts {b : Bs} {e : Ev} (h : Fit b e) : 1 ≤ e.seq ∧ e.seq ≤ 281474976710656 ∧ 0 ≤ e.time ∧ e.time ≤ 281474976710656 ∧ e.cpu < 64 ∧ 1 ≤ e.kind ∧ e.kind ≤ 10 := by
  obtain ⟨h1, _, h3, h4, h5, h6, h7⟩ := ok_vals h.check
  have h8 : ¬ (e.kind = 0 ∨ 10 < e.kind) := by rw [h1]; exact id
  omega
theorem rowGo_bad {cpu : Nat} : ∀ (es : List Ev) (p : Option Ev) (b : Bs) (i k : Nat) (x : Ev) (er : Nat), Chain cpu p b es → (∀ q, p = some q → b = q.at ∧ q.cpu = cpu) → k < es.length →
    ((x.check = er ∧ er ≠ 0) ∨ (x.check = 0 ∧ er = 71 ∧ ∃ q, (if k = 0 then p else es[k - 1]?) = some q ∧ x.after q = false)) → rowGo p i (es.set k x) = (((i + k : Nat) : Int), er)
  | [], _, _, _, k, _, _, _, _, hk, _ => by simp at hk
  | e :: r, p, b, i, 0, x, er, h, hp, _, hx => by
    rw [List.set_cons_zero, rowGo]
    rcases hx with ⟨h1, h2⟩ | ⟨h1, rfl, q, h2, h3⟩
    · rw [if_pos (by rw [h1]; exact h2), h1, Nat.add_zero]
    · rw [if_neg (by simp [h1]), if_pos, Nat.add_zero]
      rw [if_pos rfl] at h2
      rw [h2]
      simpa using h3
  | e :: r, p, b, i, k + 1, x, er, h, hp, hk, hx => by
    obtain ⟨h1, h2, h3, h4⟩ := h
    rw [List.set_cons_succ, rowGo, if_neg (by simp [h1.check]), if_neg]
    · rw [rowGo_bad r (some e) e.at (i + 1) k x er h4 (fun q hq => by injection hq with hq; subst hq; exact ⟨rfl, h2⟩) (by simpa using hk) ?_]
      · rw [show i + 1 + k = i + (k + 1) by omega]
      · rcases hx with h5 | ⟨h5, h6, q, h7, h8⟩
        · exact .inl h5
        · refine .inr ⟨h5, h6, q, ?_, h8⟩
          rw [if_neg (by omega), Nat.add_sub_cancel] at h7
          cases k with
          | zero => simpa using h7
          | succ k => simpa using h7
    · cases p with
      | none => simp
      | some q =>
        obtain ⟨rfl, hc⟩ := hp q rfl
        have hb := h1.behind
        unfold Bs.behind Ev.at at hb
        simp only [decide_eq_true_eq] at hb
        have := h3 q rfl
        have haf : e.after q = true := by
          unfold Ev.after
          rw [decide_eq_true_eq]
          exact ⟨by rw [h2, hc], this, hb.2⟩
        simp [haf]
/-- An event of which all fields but these are 0. -/
def pickEv (s t : Int) (c task : Nat) : Ev := ⟨s, t, c, 6, (task : Int), 0, 0, 0, 0, 0, 0⟩
theorem pickEv_check {s t : Int} {c task : Nat} (hs : 1 ≤ s ∧ s ≤ 281474976710656) (ht : 0 ≤ t ∧ t ≤ 281474976710656) (hc : c < 64) : (pickEv s t c 0).check = 0 ∧ (1 ≤ task → (pickEv s t c task).check = 62) := by
  have h2 : ¬ (s < 1 ∨ 281474976710656 < s ∨ t < 0 ∨ 281474976710656 < t ∨ 64 ≤ c) := by omega
  constructor
  · unfold Ev.check pickEv
    rw [if_neg (by simp), if_neg h2, if_neg (by simp [usesL, Ev.within]), if_neg]
    simp [usesL, List.range, List.range.loop, Ev.fld]
  · intro h3
    unfold Ev.check pickEv
    rw [if_neg (by simp), if_neg h2, if_neg (by simp [usesL, Ev.within]), if_pos]
    have : ¬ (task = 0) := by omega
    simp [usesL, List.range, List.range.loop, Ev.fld, this]
theorem i64_zero : I64 0 := ⟨by decide, by decide⟩
theorem pickEv_ok {s t : Int} {c task : Nat} (hs : I64 s) (ht : I64 t) (hc : c < 256) (h : task ≤ 1) : (pickEv s t c task).Ok := ⟨hs, ht, hc, show (6 : Nat) < 256 by decide, ⟨by show _ ≤ (task : Int); omega, by show (task : Int) ≤ _; omega⟩, i64_zero, i64_zero, i64_zero, i64_zero, show (0 : Nat) < 18446744073709551616 by decide, i64_zero⟩
/-- An event of no kind. -/
def Ev.noKind (e : Ev) : Ev := { e with kind := 0 }
theorem noKind_check (e : Ev) : e.noKind.check = 60 := by unfold Ev.check Ev.noKind; rw [if_pos (.inl rfl)]
theorem noKind_ok {e : Ev} (h : e.Ok) : e.noKind.Ok := ⟨h.seq, h.time, h.cpu, show (0 : Nat) < 256 by decide, h.task, h.group, h.to, h.weight, h.ticks, h.mask, h.got⟩
theorem seq0_check {e : Ev} (h : 1 ≤ e.kind ∧ e.kind ≤ 10) : (e.to3 0 e.time e.cpu).check = 61 := by
  unfold Ev.check
  have h1 : ¬ (e.kind = 0 ∨ 10 < e.kind) := by omega
  have h2 : (e.to3 0 e.time e.cpu).seq < 1 ∨ 281474976710656 < (e.to3 0 e.time e.cpu).seq ∨ (e.to3 0 e.time e.cpu).time < 0 ∨ 281474976710656 < (e.to3 0 e.time e.cpu).time ∨ 64 ≤ (e.to3 0 e.time e.cpu).cpu := .inl (show (0 : Int) < 1 by decide)
  exact (if_neg h1).trans (if_pos h2)
/-- What a wrong row comes to. -/
structure WrongAt (b : Bs) (es : List Ev) (k : Nat) (x : Ev) (er : Nat) : Prop where
  ok : ∀ e ∈ es.set k x, e.Ok
  row : rowR (es.set k x) = ((k : Int), er)
  err : writeErr b (es.set k x) = er
  out : writeOut b (es.set k x) = []
theorem wrongAt {cpu : Nat} {b : Bs} {es : List Ev} (hch : Chain cpu none b es) (hok : ∀ e ∈ es, e.Ok) {k : Nat} (hk : k < es.length) {x : Ev} {er : Nat} (hx : x.Ok) (h : (x.check = er ∧ er ≠ 0) ∨ (x.check = 0 ∧ er = 71 ∧ 1 ≤ k ∧ ∃ q, es[k - 1]? = some q ∧ x.after q = false)) : WrongAt b es k x er := by
  have hr : rowR (es.set k x) = ((k : Int), er) := by
    have := rowGo_bad es none b 0 k x er hch (fun q hq => by cases hq) hk (by
      rcases h with h | ⟨h1, h2, h3, q, h4, h5⟩
      · exact .inl h
      · exact .inr ⟨h1, h2, q, by rw [if_neg (by omega)]; exact h4, h5⟩)
    rw [Nat.zero_add] at this
    exact this
  have he : er ≠ 0 := by rcases h with h | h; exact h.2; rw [h.2.1]; decide
  have hw : writeErr b (es.set k x) = er := by unfold writeErr; rw [hr, if_pos he]
  refine ⟨fun e hm => ?_, hr, hw, by unfold writeOut; rw [if_neg (by rw [hw]; exact he)]⟩
  rcases List.mem_or_eq_of_mem_set hm with h1 | h1
  · exact hok e h1
  · rw [h1]; exact hx
theorem chain_at {cpu : Nat} : ∀ (es : List Ev) (p : Option Ev) (b : Bs) (k : Nat) (e : Ev), Chain cpu p b es → es[k]? = some e → ∃ b', Fit b' e ∧ e.cpu = cpu ∧ ∀ q, (if k = 0 then p else es[k - 1]?) = some q → q.seq < e.seq
  | [], _, _, _, _, _, h => by simp at h
  | x :: r, p, b, 0, e, h, he => by
    injection he with he
    subst he
    exact ⟨b, h.1, h.2.1, fun q hq => h.2.2.1 q (by simpa using hq)⟩
  | x :: r, p, b, k + 1, e, h, he => by
    obtain ⟨b', h1, h2, h3⟩ := chain_at r (some x) x.at k e h.2.2.2 (by simpa using he)
    refine ⟨b', h1, h2, fun q hq => h3 q ?_⟩
    cases k with
    | zero => simpa using hq
    | succ k => simpa using hq
theorem not_base {b : Bs} {es : List Ev} {e : Ev} (he : es[0]? = some e) (hc : e.check = 0) (hr : (rowR es).2 = 0) (h : ¬ (b.right = true ∧ b.behind e = true)) : putErr b e = 70 ∧ writeErr b es = 70 := by
  constructor
  · unfold putErr; rw [if_neg (by simp [hc]), if_neg h]
  · unfold writeErr
    rw [if_neg (by simp [hr]), if_neg]
    cases es with
    | nil => simp at he
    | cons x r =>
      injection he with he
      subst he
      simpa using h
/-- The six bases. -/
theorem bad_bases {es : List Ev} {e : Ev} (he : es[0]? = some e) (hc : e.check = 0) (hr : (rowR es).2 = 0) (n s t : Int) : ∀ x ∈ ([⟨if (0 : Int) < n then 0 else n, t⟩, ⟨if (281474976710657 : Int) > n then 281474976710657 else n, t⟩, ⟨s, if (-1 : Int) < n then -1 else n⟩, ⟨s, if (281474976710657 : Int) > n then 281474976710657 else n⟩, ⟨e.seq + 1, 0⟩, ⟨1, e.time + 1⟩] : List Bs), putErr x e = 70 ∧ writeErr x es = 70 := by
  intro x hx
  refine not_base he hc hr ?_
  rintro ⟨h1, h2⟩
  unfold Bs.right at h1
  unfold Bs.behind at h2
  rw [decide_eq_true_eq] at h1 h2
  simp only [List.mem_cons, List.not_mem_nil, or_false] at hx
  rcases hx with rfl | rfl | rfl | rfl | rfl | rfl <;> simp only at h1 h2 <;> first | omega | (split at h1 <;> omega)
end Go.Proofs.YtpekelggcmgnnaaDoor
