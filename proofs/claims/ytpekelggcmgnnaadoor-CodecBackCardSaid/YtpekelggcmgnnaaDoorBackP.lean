/- Plain: the records of a row, one after the other; a record has at most 33 bytes. -/
import Derived.Test.YtpekelggcmgnnaaDoorBack
import Derived.Test.YtpekelggcmgnnaaDoorMade
namespace Go.Proofs.YtpekelggcmgnnaaDoor
open Go.RowKit

theorem grp_len : ∀ (j f x : Nat), x < 128 ^ (j + 1) → (grp f x).length ≤ j + 1
  | 0, 0, x, _ => by simp [grp]
  | 0, f + 1, x, h => by rw [grp_one f x (by simpa using h)]; simp
  | j + 1, 0, x, _ => by simp [grp]
  | j + 1, f + 1, x, h => by
    by_cases hx : x < 128
    · rw [grp_one f x hx]; simp
    · rw [grp_more f x (by omega), List.length_cons]
      have := grp_len j f (x / 128) (by rw [Nat.div_lt_iff_lt_mul (by decide)]; rw [Nat.pow_succ] at h; omega)
      omega
theorem vbytes_le {x : Nat} (j : Nat) (h : x < 128 ^ (j + 1)) : (vbytes x).length ≤ j + 1 := by
  unfold vbytes
  rw [List.length_map]
  exact grp_len j 10 x h
def fldW : Nat → Nat
  | 0 => 3 | 1 => 2 | 2 => 1 | 3 => 3 | 4 => 5 | 5 => 10 | _ => 3
theorem fld_bound {e : Ev} {i : Nat} (h : e.within i = true) (ho : e.Ok) : (vbytes (e.fld i).toNat).length ≤ fldW i := by
  match i, h with
  | 0, h => simp only [Ev.within, decide_eq_true_eq] at h; exact vbytes_le 2 (by show e.task.toNat < 2097152; omega)
  | 1, h => simp only [Ev.within, decide_eq_true_eq] at h; exact vbytes_le 1 (by show e.group.toNat < 16384; omega)
  | 2, h => simp only [Ev.within, decide_eq_true_eq] at h; exact vbytes_le 0 (by show e.to.toNat < 128; omega)
  | 3, h => simp only [Ev.within, decide_eq_true_eq] at h; exact vbytes_le 2 (by show e.weight.toNat < 2097152; omega)
  | 4, h => simp only [Ev.within, decide_eq_true_eq] at h; exact vbytes_le 4 (by show e.ticks.toNat < 34359738368; omega)
  | 5, h => exact vbytes_le 9 (by show (e.mask : Int).toNat < 1180591620717411303424; have := ho.mask; omega)
  | i + 6, h => simp only [Ev.within, decide_eq_true_eq] at h; exact vbytes_le 2 (by show e.got.toNat < 2097152; omega)
theorem rec_33 {b : Bs} {e : Ev} (h : Fit b e) : (recBytes b e).length ≤ 33 := by
  obtain ⟨_, _, n3, n4, n5, n6, n7, n8⟩ := h.nums
  obtain ⟨_, hw, _, _, _, _, _⟩ := ok_vals h.check
  have hbe := h.behind
  unfold Bs.behind at hbe
  rw [decide_eq_true_eq] at hbe
  have h1 := vbytes_le (x := (e.seq - b.seq).toNat) 6 (by show _ < 562949953421312; omega)
  have h2 := vbytes_le (x := (e.time - b.time).toNat) 6 (by show _ < 562949953421312; omega)
  have hf : ∀ i ∈ usesL e.kind, (vbytes (e.fld i).toNat).length ≤ fldW i := fun i hi => fld_bound (List.all_eq_true.1 hw i hi) h.ok
  unfold recBytes recNums Ev.vals
  rw [List.length_cons, List.flatMap_cons, List.flatMap_cons, List.length_append, List.length_append]
  rcases usesL_cases e.kind with hk | hk | hk | hk | hk | hk | hk | hk | hk | hk | ⟨hk, _⟩ <;>
    (rw [hk] at hf ⊢; simp [usesL, fldW] at hf ⊢; omega)
def baseK : Bs → List Ev → Nat → Bs
  | b, _, 0 => b
  | b, [], _ + 1 => b
  | _, e :: r, k + 1 => baseK e.at r k
structure BackAt (q : Nat) (es : List Ev) (out : List Nat) (k : Nat) (bk : Bs) (s : Nat) : Prop where
  le : k ≤ es.length
  chain : ∃ p, Chain q p bk (es.drop k)
  rest : out.drop s = recs bk (es.drop k)
  sle : s ≤ out.length
theorem BackAt.start {q : Nat} {es : List Ev} {b : Bs} (h : Chain q none b es) : BackAt q es (recs b es) 0 b 0 := ⟨by omega, ⟨none, h⟩, rfl, by omega⟩
theorem BackAt.step {q : Nat} {es : List Ev} {out : List Nat} {k s : Nat} {bk : Bs} (h : BackAt q es out k bk s) (hk : k < es.length) : ∃ e L, es[k]? = some e ∧ e.Ok ∧ e.cpu = q ∧ putErr bk e = 0 ∧ (putOut bk e).length = L ∧ L ≤ 33 ∧ s + L ≤ out.length ∧
    takeR bk q (out.drop s) = (e, L, 0) ∧ BackAt q es out (k + 1) e.at (s + L) := by
  obtain ⟨p, hc⟩ := h.chain
  have hr := h.rest
  rw [List.drop_eq_getElem_cons hk] at hc hr
  obtain ⟨hf, hcpu, _, hrest⟩ := hc
  have hp : putErr bk es[k] = 0 := by unfold putErr; rw [if_neg (by simp [hf.check]), if_pos ⟨hf.right, hf.behind⟩]
  have ho : putOut bk es[k] = recBytes bk es[k] := by unfold putOut; rw [if_pos hp]
  rw [recs] at hr
  have ht := takeR_fwd hf (recs es[k].at (es.drop (k + 1)))
  rw [← hr, hcpu] at ht
  have hl := congrArg List.length hr
  rw [List.length_drop, List.length_append] at hl
  have hsle := h.sle
  refine ⟨es[k], (recBytes bk es[k]).length, List.getElem?_eq_getElem hk, hf.ok, hcpu, hp, by rw [ho], rec_33 hf, by omega, ht, ⟨by omega, ⟨_, hrest⟩, ?_, by omega⟩⟩
  rw [← List.drop_drop, hr, List.drop_left]
theorem BackAt.done {q : Nat} {es : List Ev} {out : List Nat} {k s : Nat} {bk : Bs} (h : BackAt q es out k bk s) (hk : es.length ≤ k) : s = out.length := by
  have hr := h.rest
  rw [List.drop_eq_nil_of_le hk, recs] at hr
  have := congrArg List.length hr
  rw [List.length_drop, List.length_nil] at this
  have := h.sle
  omega
end Go.Proofs.YtpekelggcmgnnaaDoor
