/- Plain: a record hangs on the differences alone; an event moved, with another CPU. -/
import Derived.Test.YtpekelggcmgnnaaDoorBack
import Derived.Test.YtpekelggcmgnnaaDoorMade
import Derived.Test.YtpekelggcmgnnaaDoorPick
namespace Go.Proofs.YtpekelggcmgnnaaDoor
open Go.RowKit

/-- An event with another number, time and CPU. -/
def Ev.to3 (e : Ev) (s t : Int) (c : Nat) : Ev := { e with seq := s, time := t, cpu := c }
theorem to3_vals (e : Ev) (s t : Int) (c : Nat) : (e.to3 s t c).vals = e.vals := rfl
theorem to3_bytes (b : Bs) (e : Ev) (x y : Int) (c : Nat) : recBytes ⟨b.seq + x, b.time + y⟩ (e.to3 (e.seq + x) (e.time + y) c) = recBytes b e := by
  unfold recBytes recNums
  rw [to3_vals]
  show (e.kind :: List.flatMap vbytes (_ :: _ :: e.vals)) = _
  rw [show ((e.to3 (e.seq + x) (e.time + y) c).seq - (b.seq + x)) = e.seq - b.seq by show e.seq + x - (b.seq + x) = _; omega, show ((e.to3 (e.seq + x) (e.time + y) c).time - (b.time + y)) = e.time - b.time by show e.time + y - (b.time + y) = _; omega]
theorem to3_check {e : Ev} (h : e.check = 0) {s t : Int} (hs : 1 ≤ s ∧ s ≤ 281474976710656) (ht : 0 ≤ t ∧ t ≤ 281474976710656) : (e.to3 s t e.cpu).check = 0 := by
  unfold Ev.check at h ⊢
  by_cases h1 : e.kind = 0 ∨ 10 < e.kind
  · rw [if_pos h1] at h; cases h
  · rw [if_neg h1] at h
    rw [if_neg (show ¬ ((e.to3 s t e.cpu).kind = 0 ∨ 10 < (e.to3 s t e.cpu).kind) from h1)]
    by_cases h2 : e.seq < 1 ∨ 281474976710656 < e.seq ∨ e.time < 0 ∨ 281474976710656 < e.time ∨ 64 ≤ e.cpu
    · rw [if_pos h2] at h; cases h
    · rw [if_neg h2] at h
      have h3 : ¬ (s < 1 ∨ 281474976710656 < s ∨ t < 0 ∨ 281474976710656 < t ∨ 64 ≤ e.cpu) := by omega
      exact (if_neg h3).trans h
theorem to3_ok {e : Ev} (h : e.Ok) {s t : Int} {c : Nat} (hs : I64 s) (ht : I64 t) (hc : c < 256) : (e.to3 s t c).Ok := ⟨hs, ht, hc, h.kind, h.task, h.group, h.to, h.weight, h.ticks, h.mask, h.got⟩
theorem pick40 (x : Int) : pickZ x 1099511627776 = x % 1099511627776 ∧ 0 ≤ x % 1099511627776 ∧ x % 1099511627776 < 1099511627776 := ⟨by unfold pickZ; rw [if_neg (by decide)], by omega, by omega⟩
/-- What CodecShifts comes to. -/
structure ShiftFacts (b : Bs) (x : Sm) (e : Ev) (s t : Int) (c : Nat) : Prop where
  made : madeL x.cpu b [x] = [e]
  eok : e.Ok
  bok : b.based.Ok
  bnd : 1 ≤ e.seq ∧ e.seq ≤ 1200000000000 ∧ 0 ≤ e.time ∧ e.time ≤ 1200000000000 ∧ 1 ≤ b.based.seq ∧ b.based.seq ≤ 1099511627776 ∧ 0 ≤ b.based.time ∧ b.based.time ≤ 1099511627776
  put1 : putErr b.based e = 0
  put2 : putErr ⟨b.based.seq + s, b.based.time + t⟩ (e.to3 (e.seq + s) (e.time + t) e.cpu) = 0
  same2 : putOut ⟨b.based.seq + s, b.based.time + t⟩ (e.to3 (e.seq + s) (e.time + t) e.cpu) = putOut b.based e
  put3 : (e.to3 (e.seq + s) (e.time + t) c).check ≠ 0 ∧ putErr ⟨b.based.seq + s, b.based.time + t⟩ (e.to3 (e.seq + s) (e.time + t) c) = (e.to3 (e.seq + s) (e.time + t) c).check ∨
    putErr ⟨b.based.seq + s, b.based.time + t⟩ (e.to3 (e.seq + s) (e.time + t) c) = 0 ∧ putOut ⟨b.based.seq + s, b.based.time + t⟩ (e.to3 (e.seq + s) (e.time + t) c) = putOut b.based e
  bytes : ∀ z ∈ putOut b.based e, z < 256
theorem shift_facts (b : Bs) {x : Sm} (hx : x.Ok) {s t : Int} (hs : 0 ≤ s ∧ s < 1099511627776) (ht : 0 ≤ t ∧ t < 1099511627776) (c : Nat) : ∃ e, ShiftFacts b x e s t c := by
  have hch := madeL_chain hx.cpu b (l := [x]) (by simpa using hx)
  obtain ⟨hr, h1, h2, h3, h4⟩ := based_right b
  obtain ⟨k1, k2, k3, k4⟩ := step_bounds b.start hx
  have hst : b.start.seq = b.based.seq - 1 ∧ b.start.time = b.based.time := ⟨rfl, rfl⟩
  obtain ⟨e, he, hes, het⟩ : ∃ e, madeL x.cpu b [x] = [e] ∧ e.seq = (b.start.step x).seq ∧ e.time = (b.start.step x).time := ⟨_, rfl, rfl, rfl⟩
  rw [he] at hch
  obtain ⟨hf, hcpu, _, _⟩ := hch
  have hbeh := hf.behind
  unfold Bs.behind at hbeh
  rw [decide_eq_true_eq] at hbeh
  have hbnd : 1 ≤ e.seq ∧ e.seq ≤ 1200000000000 ∧ 0 ≤ e.time ∧ e.time ≤ 1200000000000 := by omega
  have hright : (⟨b.based.seq + s, b.based.time + t⟩ : Bs).right = true := by unfold Bs.right; rw [decide_eq_true_eq]; exact ⟨show 1 ≤ b.based.seq + s by omega, show b.based.seq + s ≤ _ by omega, show 0 ≤ b.based.time + t by omega, show b.based.time + t ≤ _ by omega⟩
  have hbe2 : ∀ c, (⟨b.based.seq + s, b.based.time + t⟩ : Bs).behind (e.to3 (e.seq + s) (e.time + t) c) = true := fun c => by unfold Bs.behind; rw [decide_eq_true_eq]; show b.based.seq + s ≤ e.seq + s ∧ b.based.time + t ≤ e.time + t; omega
  have hp1 : putErr b.based e = 0 := by unfold putErr; rw [if_neg (by simp [hf.check]), if_pos ⟨hf.right, hf.behind⟩]
  have hck := to3_check hf.check (s := e.seq + s) (t := e.time + t) (by omega) (by omega)
  have hp2 : putErr ⟨b.based.seq + s, b.based.time + t⟩ (e.to3 (e.seq + s) (e.time + t) e.cpu) = 0 := by unfold putErr; rw [if_neg (by simp [hck]), if_pos ⟨hright, hbe2 _⟩]
  have ho1 : putOut b.based e = recBytes b.based e := by unfold putOut; rw [if_pos hp1]
  refine ⟨e, he, hf.ok, ⟨⟨by omega, by omega⟩, ⟨by omega, by omega⟩⟩, ⟨by omega, by omega, by omega, by omega, by omega, by omega, by omega, by omega⟩, hp1, hp2, ?_, ?_, ?_⟩
  · rw [ho1]; unfold putOut; rw [if_pos hp2, to3_bytes]
  · by_cases hc : (e.to3 (e.seq + s) (e.time + t) c).check = 0
    · right
      have hp3 : putErr ⟨b.based.seq + s, b.based.time + t⟩ (e.to3 (e.seq + s) (e.time + t) c) = 0 := by unfold putErr; rw [if_neg (by simp [hc]), if_pos ⟨hright, hbe2 _⟩]
      refine ⟨hp3, ?_⟩
      rw [ho1]; unfold putOut; rw [if_pos hp3, to3_bytes]
    · left
      exact ⟨hc, by unfold putErr; rw [if_pos hc]⟩
  · rw [ho1]
    intro z hz
    unfold recBytes at hz
    rcases List.mem_cons.1 hz with rfl | hz
    · exact hf.ok.kind
    · obtain ⟨y, _, hy⟩ := List.mem_flatMap.1 hz
      obtain ⟨p, hp, rfl⟩ := List.mem_map.1 hy
      have := grp_lt 10 y p hp
      unfold vbyte
      split <;> omega
end Go.Proofs.YtpekelggcmgnnaaDoor
