/- quantumlaw07.CodecWrong answers true: the walk and the plain law together. -/
import Derived.Test.YtpekelggcmgnnaaDoorWrongW
import Derived.Test.YtpekelggcmgnnaaDoorShort
namespace Go.Proofs.YtpekelggcmgnnaaDoor
open Go.RowKit

theorem sm1_ok : sm1.Ok := by constructor <;> decide
theorem sm2_ok : sm2.Ok := by constructor <;> decide
theorem take_kind {b : Bs} {cpu p : Nat} (hr : b.right = true) (hp : p < 245) : takeR b cpu [11 + p, 0, 0, 1] = (Ev.zero, 0, 60) := by
  have h : usesL (11 + p) = [] := by
    rcases usesL_cases (11 + p) with h | h | h | h | h | h | h | h | h | h | h
    any_goals omega
    exact h.1
  unfold takeR
  rw [if_neg (by simp [hr]), if_neg (by simp), if_pos]
  show (usesL (11 + p)).length = 0
  rw [h]
  rfl
theorem madeL_bound : ∀ (cpu : Nat) (l : List Sm) (a : Bs), (∀ x ∈ l, x.Ok) → ∀ e ∈ madeGo cpu a l, a.seq ≤ e.seq ∧ e.seq ≤ a.seq + 4294967296 * l.length ∧ a.time ≤ e.time ∧ e.time ≤ a.time + 4294967296 * l.length
  | _, [], _, _, e, he => by simp [madeGo] at he
  | cpu, x :: r, a, h, e, he => by
    obtain ⟨h1, h2, h3, h4⟩ := step_bounds a (h x (by simp))
    rw [madeGo] at he
    rcases List.mem_cons.1 he with rfl | he
    · simp only [List.length_cons]
      show a.seq ≤ (a.step x).seq ∧ (a.step x).seq ≤ _ ∧ a.time ≤ (a.step x).time ∧ (a.step x).time ≤ _
      omega
    · obtain ⟨g1, g2, g3, g4⟩ := madeL_bound cpu r (a.step x) (fun y hy => h y (by simp [hy])) e he
      simp only [List.length_cons]
      omega

theorem wrong_any (cpu : Nat) (hcpu : cpu < 256) (b : Bs) (hb : b.Ok) (A : Option Addr) (n0 c0 : Nat) (l : List Sm) (hl : ∀ x ∈ l, x.Ok) (way : Nat) (hw : way < 256) (n : Int) (hn : I64 n)
    (B : Nat) (w : World) (hL : Laid B w) (hB : B ≤ w.heap.size) (hr : Rd w w.heap.size 11 A n0 (l.flatMap smL)) (hc0 : n0 ≤ c0) :
    Calls Tryd.prog 7 #[.int .u8 (cpu : Int), .agg b.cells, .slice A n0 c0, .int .u8 (way : Int), .int .i64 n] w (TruePost w) := by
  have hlen : l.length = n0 := by have := hr.len; rw [flat_len smL 11 smL_len] at this; omega
  obtain ⟨M, hM⟩ : ∃ M, min n0 50 = M := ⟨_, rfl⟩
  have hM2 : M ≤ 50 := by omega
  have hM3 : M ≤ n0 := by omega
  have hM1 : (if (50 : Int) < (n0 : Int) then (50 : Int) else (n0 : Int)) = (M : Int) := by split <;> omega
  have hlm : ∀ x ∈ l.take M ++ [sm1, sm2], x.Ok := by
    intro x hx
    rcases List.mem_append.1 hx with h | h
    · exact hl x (List.mem_of_mem_take h)
    · simp only [List.mem_cons, List.not_mem_nil, or_false] at h
      rcases h with rfl | rfl
      · exact sm1_ok
      · exact sm2_ok
  obtain ⟨ls, hls⟩ : ∃ ls, l.take M ++ [sm1, sm2] = ls := ⟨_, rfl⟩
  have hll : ls.length = M + 2 := by rw [← hls, List.length_append, List.length_take]; simp; omega
  have hch := madeL_chain hcpu b (l := ls) (by rw [← hls]; exact hlm)
  obtain ⟨hbr, hb1, hb2, hb3, hb4⟩ := based_right b
  obtain ⟨hw1, hw2, hw3⟩ := write_fwd hbr hch
  obtain ⟨es, hes⟩ : ∃ es, madeL cpu b ls = es := ⟨_, rfl⟩
  have hel : es.length = M + 2 := by rw [← hes]; unfold madeL; rw [madeGo_len, List.length_take]; omega
  have hbd : ∀ e ∈ es, b.based.seq - 1 ≤ e.seq ∧ e.seq ≤ b.based.seq - 1 + 4294967296 * 200 ∧ b.based.time ≤ e.time ∧ e.time ≤ b.based.time + 4294967296 * 200 := by
    intro e he
    rw [← hes] at he
    unfold madeL at he
    have hlt : (ls.take 200).length ≤ 200 := by rw [List.length_take]; omega
    obtain ⟨g1, g2, g3, g4⟩ := madeL_bound cpu (ls.take 200) b.start (fun x hx => by have := List.mem_of_mem_take hx; rw [← hls] at this; exact hlm x this) e he
    have hs : b.start.seq = b.based.seq - 1 ∧ b.start.time = b.based.time := ⟨rfl, rfl⟩
    omega
  rw [hes] at hch hw1 hw2 hw3
  have hok := chain_ok es none b.based hch
  have hidx : ∀ k, k < es.length → ∃ e, es[k]? = some e := fun k hk => ⟨_, List.getElem?_eq_getElem hk⟩
  obtain ⟨e0, h00⟩ := hidx 0 (by omega)
  obtain ⟨k1, hk1⟩ : ∃ k1 : Nat, pickZ n ((es.length - 1 : Nat) : Int) = (k1 : Int) ∧ k1 < es.length - 1 := by
    unfold pickZ
    rw [if_neg (by omega)]
    refine ⟨(n % ((es.length - 1 : Nat) : Int)).toNat, ?_, ?_⟩ <;> have h1 := Int.emod_nonneg n (show ((es.length - 1 : Nat) : Int) ≠ 0 by omega) <;> have h2 := Int.emod_lt_of_pos n (show (0 : Int) < ((es.length - 1 : Nat) : Int) by omega) <;> omega
  obtain ⟨p, hp⟩ : ∃ p : Nat, pickZ n 245 = (p : Int) ∧ p < 245 := by
    unfold pickZ
    rw [if_neg (by decide)]
    refine ⟨(n % 245).toNat, by omega, by omega⟩
  obtain ⟨k, hk⟩ : ∃ k, k = 1 + k1 := ⟨_, rfl⟩
  obtain ⟨e, hke⟩ := hidx k (by omega)
  obtain ⟨ep, hkp⟩ := hidx (k - 1) (by omega)
  obtain ⟨b', hf, hecpu, hprev⟩ := chain_at es none b.based k e hch hke
  obtain ⟨b0, hf0, _, _⟩ := chain_at es none b.based 0 e0 hch h00
  obtain ⟨bp, hfp, hepcpu, _⟩ := chain_at es none b.based (k - 1) ep hch hkp
  have hlt := hprev ep (by rw [if_neg (by omega)]; exact hkp)
  obtain ⟨f1, f2, f3, f4, f5, f6, f7⟩ := ev_facts hf
  obtain ⟨g1, g2, g3, g4, g5, g6, g7⟩ := ev_facts hfp
  obtain ⟨j1, j2, j3, j4, j5, j6, j7⟩ := ev_facts hf0
  have hkl : k < es.length := by omega
  have hset : ∀ x : Ev, (es.set k x)[k]? = some x := fun x => List.getElem?_set_self (by omega)
  have W := fun (x : Ev) (er : Nat) (hx : x.Ok) h => wrongAt hch hok hkl (x := x) (er := er) hx h
  have hso : ∀ s, 1 ≤ s → s ≤ 281474976710656 → (e.to3 s e.time e.cpu).Ok := fun s h1 h2 => to3_ok hf.ok ⟨by omega, by omega⟩ ⟨by omega, by omega⟩ hf.ok.cpu
  have hseq : ∀ s, 1 ≤ s → s ≤ ep.seq → WrongAt b.based es k (e.to3 s e.time e.cpu) 71 := fun s h1 h2 =>
    W _ 71 (hso s h1 (by omega)) (.inr ⟨to3_check hf.check ⟨h1, by omega⟩ ⟨f3, f4⟩, rfl, by omega, ep, hkp, by
      unfold Ev.after
      rw [decide_eq_false_iff_not]
      rintro ⟨_, h3, _⟩
      have h4 : ep.seq < s := h3
      omega⟩)
  have hnm : I64 (if (-1 : Int) < n then -1 else n) := by have h1 := hn.1; have h2 := hn.2; constructor <;> split <;> omega
  refine wrong_walk cpu hcpu b hb A n0 c0 l way n M p k1 k ((e.cpu + 1) % 64) (way % 6) es e0 e ep hf0.ok hM1 hM2 hM3 hc0 hlm (by simp [smL]) ?_ (by rw [hls]; exact hes) hok (by omega) (by omega) h00 ?_ hkp hke (hset _) ⟨by omega, by have := hbd e0 (List.mem_of_getElem? h00); omega, by omega, by have := hbd e0 (List.mem_of_getElem? h00); omega⟩
    [⟨if (0 : Int) < n then 0 else n, b.based.time⟩, ⟨if (281474976710657 : Int) > n then 281474976710657 else n, b.based.time⟩, ⟨b.based.seq, if (-1 : Int) < n then -1 else n⟩, ⟨b.based.seq, if (281474976710657 : Int) > n then 281474976710657 else n⟩, ⟨e0.seq + 1, 0⟩, ⟨1, e0.time + 1⟩] rfl ?_ hnm ?_
    (fun w => by have := pick_any n 245 hn ⟨by decide, by decide⟩ w; rw [hp.1] at this; exact this) (fun w => by have := pick_any n ((es.length - 1 : Nat) : Int) hn ⟨by omega, by omega⟩ w; rw [hk1.1] at this; exact this) hp.2 hk hkl ?_ (take_kind hbr hp.2) ?_ (by rw [Int.tmod_eq_emod_of_nonneg (by omega)]; simp) (by omega) ?_ (by rw [Int.tmod_eq_emod_of_nonneg (by omega)]; simp) ?_ ?_ ?_ ?_ ?_ ?_ ?_ B w hL hB ?_
  · intro hA
    rcases Nat.eq_zero_or_pos n0 with h | h
    · omega
    · obtain ⟨ad, h1, _⟩ := hr.row h
      rw [hA] at h1; cases h1
  · rw [List.getElem?_set_ne (by omega)]; exact h00
  · intro j hj
    have hall := bad_bases h00 hf0.check (by rw [hw1]) n b.based.seq b.based.time
    have hl6 : ([⟨if (0 : Int) < n then 0 else n, b.based.time⟩, ⟨if (281474976710657 : Int) > n then 281474976710657 else n, b.based.time⟩, ⟨b.based.seq, if (-1 : Int) < n then -1 else n⟩, ⟨b.based.seq, if (281474976710657 : Int) > n then 281474976710657 else n⟩, ⟨e0.seq + 1, 0⟩, ⟨1, e0.time + 1⟩] : List Bs).length = 6 := rfl
    generalize ([⟨if (0 : Int) < n then 0 else n, b.based.time⟩, ⟨if (281474976710657 : Int) > n then 281474976710657 else n, b.based.time⟩, ⟨b.based.seq, if (-1 : Int) < n then -1 else n⟩, ⟨b.based.seq, if (281474976710657 : Int) > n then 281474976710657 else n⟩, ⟨e0.seq + 1, 0⟩, ⟨1, e0.time + 1⟩] : List Bs) = bads at *
    have hj' : j < bads.length := by omega
    obtain ⟨h1, h2⟩ := hall bads[j] (List.getElem_mem hj')
    exact ⟨bads[j], List.getElem?_eq_getElem hj', h1, h2, by unfold writeOut; rw [if_neg (by rw [h2]; decide)], by unfold putOut; rw [if_neg (by rw [h1]; decide)]⟩
  · unfold readR
    rw [if_pos (by split <;> omega)]
  · intro x hx
    simp only [List.mem_cons, List.not_mem_nil, or_false] at hx
    have := hp.2
    omega
  · have := hp.2
    exact IntWalk.u8_in _ (by omega)
  · rw [show ((e.cpu + 1 : Nat) : Int) = (e.cpu : Int) + 1 by simp]
    exact IntWalk.u8_in _ (by omega)
  · exact fun _ => hseq ep.seq g1 (by omega)
  · exact fun _ => W _ 71 (pickEv_ok ⟨by omega, by omega⟩ ⟨by omega, by omega⟩ (by omega) (by omega)) (.inr ⟨(pickEv_check (task := 0) ⟨f1, f2⟩ ⟨f3, f4⟩ (by omega)).1, rfl, by omega, ep, hkp, by
      unfold Ev.after
      rw [decide_eq_false_iff_not]
      rintro ⟨h3, _, _⟩
      have h4 : (e.cpu + 1) % 64 = ep.cpu := h3
      omega⟩)
  · exact fun _ => W _ 60 (noKind_ok hf.ok) (.inl ⟨noKind_check e, by decide⟩)
  · exact fun _ => W _ 61 (to3_ok hf.ok i64_zero ⟨by omega, by omega⟩ hf.ok.cpu) (.inl ⟨seq0_check ⟨f6, f7⟩, by decide⟩)
  · exact fun _ => W _ 62 (pickEv_ok ⟨by omega, by omega⟩ ⟨by omega, by omega⟩ (by omega) (by omega)) (.inl ⟨(pickEv_check (task := 1) ⟨f1, f2⟩ ⟨f3, f4⟩ f5).2 (by decide), by decide⟩)
  · exact fun _ _ => hseq 1 (by omega) g1
  · intro _ hk1'
    have : e0 = ep := by subst hk1'; rw [h00] at hkp; exact Option.some.inj hkp
    rw [this]
    exact hseq ep.seq g1 (by omega)
  · have h := hr.upto (k := M) (by omega)
    rw [flat_take smL 11 smL_len] at h
    exact h
end Go.Proofs.YtpekelggcmgnnaaDoor
