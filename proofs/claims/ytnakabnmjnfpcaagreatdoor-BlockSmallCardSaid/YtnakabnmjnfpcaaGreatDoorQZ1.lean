/- Texts laid together: Cod7, Ref06, Ref06b, Ref06c, Ref06d, Ref06e, Ref06f, RWith, CrcP, OneWay, Back, BlkS, BlkR, Rnd, CodR, Cod8, Cod9, Conv, Door, Sep, Sep2, Sep3. -/
import Derived.Test.YtnakabnmjnfpcaaGreatDoorQCod6
import Derived.Shelf.RegionOpen
import Derived.TacticsInMore
import Derived.LoopNIn
import Derived.LoopIn
import Derived.Test.YtnakabnmjnfpcaaGreatDoorQWithAll
import Derived.Test.YtnakabnmjnfpcaaGreatDoorQMem
import Derived.Test.YtnakabnmjnfpcaaGreatDoorQCodS
import Derived.Test.YtnakabnmjnfpcaaGreatDoorQStr
import Derived.RangeFuncNested
import Derived.RangeFuncCalls
import Derived.Laws.BytesString
import Derived.Laws.BytesArg
import Derived.ProofKit
import Derived.Below
import Derived.Carry
import Derived.LaidMore
import Derived.Lib.LaidU8
import Derived.Lib.SmallJoins
namespace Go.Proofs.YtnakabnmjnfpcaaGreatDoor
open Go.RowKit Go.Shelf
attribute [local go_sem] Oper.semAt_some
def encT (q : Ev × Nat × Nat) : Array Value := #[.agg #[.int .i64 q.1.seq, .int .i64 q.1.time, .int .u8 (q.1.cpu : Int), .int .u8 (q.1.kind : Int), .int .i64 q.1.task, .int .i64 q.1.group, .int .i64 q.1.to, .int .i64 q.1.weight, .int .i64 q.1.ticks, .int .u64 (q.1.mask : Int), .int .i64 q.1.got, .int .i64 (q.2.1 : Int)], .int .i64 (q.2.2 : Int)]
theorem qk6 : ∀ (j : Nat) (l : List Nat), (readN j l).2.1 ≤ l.length
 | 0, _ => by simp [readN]
 | j + 1, l => by
  have h1 := qbc l
  have h2 := qk6 j (l.drop (vread l).2.1)
  rw [List.length_drop] at h2
  rw [readN]
  split
  ·simp
  ·split
   ·simp
   ·show _ + _ ≤ _; omega
theorem qfp (b : Bs) (cpu : Nat) (l : List Nat) : (takeR b cpu l).2.1 ≤ l.length ∧ ((takeR b cpu l).2.2 = 0 → 0 < (takeR b cpu l).2.1) := by
 unfold takeR
 split
 ·simp
 ·split
  ·simp
  ·split
   ·simp
   ·rename_i h0 _
    unfold qaw
    have h1 := qk6 (2 + (usesL (l.getD 0 0)).length) (l.drop 1)
    rw [List.length_drop] at h1
    have h2 : 0 < l.length := List.length_pos_iff.2 h0
    split
    ·rename_i h; exact ⟨Nat.zero_le _, fun h' => absurd h' h⟩
    ·split
     ·simp
     ·split
      ·simp
      ·exact ⟨by show 1 + _ ≤ _; omega, fun _ => by show 0 < 1 + _; omega⟩
theorem qdm (f : Nat) (b : Bs) (cpu : Nat) (l : List Nat) : qcu (f + 1) b cpu l = takeR b cpu l :: if (takeR b cpu l).2.2 ≠ 0 then [] else qcu f (takeR b cpu l).1.at cpu (l.drop (takeR b cpu l).2.1) := rfl
theorem Rd.qel {w w' : World} {B size n : Nat} {A : Option Addr} {xs : List Value} (h : Rd w B size A n xs) (hk : ∀ (p : Addr) (v : Value), p.block < B → w.cell? p = some v → w'.cell? p = some v) : Rd w' B size A n xs :=
 ⟨h.len, fun hn => by
  obtain ⟨ad, e, hb, hc⟩ := h.row hn
  exact ⟨ad, e, hb, fun j u hu => hk _ _ (by rw [add_block]; exact hb) (hc j u hu)⟩⟩
theorem Laid.qel {B : Nat} {w w' : World} (h : Laid B w) (hk : ∀ (p : Addr) (v : Value), p.block < B → w.cell? p = some v → w'.cell? p = some v) : Laid B w' :=
 ⟨fun k hk' => by obtain ⟨A, c, h1, h2⟩ := h.uses k hk'; exact ⟨A, c, hk _ _ h.big h1, h2.qel hk⟩, h.big, fun i hi => by obtain ⟨s, h1⟩ := h.names i hi; exact ⟨s, hk _ _ h.big2 h1⟩, h.big2⟩
def RecN (B0 bb bc by' k : Nat) : Prop := k < B0 ∨ k = bb ∨ k = bc ∨ k = by'
structure RecAt (B B0 bb bc by' cpu : Nat) (bk : Bs) (lk : List Nat) (A : Option Addr) (n c : Nat) (W : World) : Prop where
 base : W.heap[bb]? = some (.cells bk.cells 76 (0, 0))
 cpu : W.heap[bc]? = some (.cells #[.int .u8 (cpu : Int)] 5 (0, 0))
 bytes : W.heap[by']? = some (.cells #[.slice A n c] 33 (0, 0))
 rd : Rd W B0 1 A n (lk.map B8)
 cap : n ≤ c
 small : ∀ b ∈ lk, b < 256
 len : n ≤ 200000000000000
 laid : Laid B W
theorem RecAt.chg {B B0 bb bc by' cpu : Nat} {bk : Bs} {lk : List Nat} {A : Option Addr} {n c : Nat} {W W' : World} (h : RecAt B B0 bb bc by' cpu bk lk A n c W) (hc : Chg [] W W') : RecAt B B0 bb bc by' cpu bk lk A n c W' :=
 ⟨hc.same h.base (by simp), hc.same h.cpu (by simp), hc.same h.bytes (by simp), h.rd.chg hc (by simp), h.cap, h.small, h.len, h.laid.qel (fun _ _ _ h' => (hc.keep (Nat.zero_le _)).cell h' (by simp))⟩
set_option maxRecDepth 100000 in
set_option maxHeartbeats 2000000 in
theorem qj4 (B B0 bb bc by' cpu : Nat) (hcpu : cpu < 256) (b : Bs) (l0 : List Nat) (A0 : Option Addr) (n0 c0 : Nat) (w0 : World) (hd1 : bb ≠ bc) (hd2 : bb ≠ by') (hd3 : bc ≠ by') (hBB : B ≤ B0) (hb0 : B0 ≤ bb) (hy0 : B0 ≤ by') (hst : RecAt B B0 bb bc by' cpu b l0 A0 n0 c0 w0) :
  Iter Tryz.prog 93 #[.pointer (some ⟨bb, 0, none⟩), .pointer (some ⟨bc, 0, none⟩), .pointer (some ⟨by', 0, none⟩)] ((qcu (l0.length + 1) b cpu l0).map encT) [bb, by'] (RecN B0 bb bc by') w0 := by
 intro l J Jx T w1 hb1 hJ hJx hTlt hN hY h0
 have hltb := qah hst.base
 have hltc := qah hst.cpu
 have hlty := qah hst.bytes
 refine callsIn_of_wp Tryz.func93 rfl trivial ?_ rfl
 simp only [Tryz.ntmps93, List.size_toArray, List.length_cons, List.length_nil, Nat.reduceAdd, Nat.reduceSub, Array.replicate_succ, Array.replicate_zero, List.push_toArray, List.append_toArray, List.nil_append, List.cons_append]
 gi_wp2
 gi_loopw [5] (fun _ wr => ∃ (k f : Nat) (bk : Bs) (lk : List Nat) (A : Option Addr) (n c : Nat), (qcu (l0.length + 1) b cpu l0).drop k = qcu (f + 1) bk cpu lk ∧ lk.length < f + 1 ∧ RecAt B B0 bb bc by' cpu bk lk A n c wr ∧ J k wr ∧ (∀ x, RecN B0 bb bc by' x → ¬ T wr x))
  (fun _ wr => match wr.cell? ⟨by', 0, none⟩ with | some (.slice _ n _) => n | _ => 0)
 case atStart => exact ⟨0, l0.length, b, l0, A0, n0, c0, rfl, by omega, hst.chg hb1, h0, fun x hx => hN x hx⟩
 case round =>
  obtain ⟨k, f, bk, lk, A, n, c, hd, hf, hrc, hj, hnt⟩ := hrel
  have hq := qdm f bk cpu lk
  rw [hq] at hd
  obtain ⟨hk, hg, hr⟩ := qd7 hd
  have htl := qfp bk cpu lk
  have hlen : lk.length = n := by simpa using hrc.rd.len
  have hb1s := hb1.size
  have hzb := qah hrc.base
  have hzc := qah hrc.cpu
  have hzy := qah hrc.bytes
  have HT := hide (quf bk cpu hcpu A n c lk B wr hrc.laid (by omega) (hrc.rd.more (by omega)) hrc.cap hrc.small hrc.len)
  have HG := hide hg
  have HRR := hide hr
  have HLN := hide hlen
  obtain ⟨q, HQ⟩ : ∃ q, Hid (takeR bk cpu lk = q) := ⟨_, hide rfl⟩
  rw [HQ.out] at HT HG HRR htl
  clear hq hd hg hr hlen
  have c0 : wr.cell? ⟨bb, 0, none⟩ = some (.int .i64 bk.seq) := by simp [World.cell?, hrc.base, Bs.cells]
  have c1 : wr.cell? ⟨bb, 1, none⟩ = some (.int .i64 bk.time) := by simp [World.cell?, hrc.base, Bs.cells]
  have c2 : wr.cell? ⟨bc, 0, none⟩ = some (.int .u8 (cpu : Int)) := by simp [World.cell?, hrc.cpu]
  have c3 : wr.cell? ⟨by', 0, none⟩ = some (.slice A n c) := by simp [World.cell?, hrc.bytes]
  have hHJ := hide hJ
  have hHT := hide hTlt
  have hHN := hide hnt
  have hHY := hide hY
  have hHX := hide hJx
  have hHR := hide hrc
  have hHj := hide hj
  clear hJ hTlt hnt hY hJx hrc hN h0 hb1 hj
  obtain ⟨e9, m9, er⟩ := q
  simp only at htl
  by_cases hbad : er = 0
  ·have hne : ((er : Int) != 0) = false := by rw [bne_eq_false_iff_eq]; omega
   have HBD := hide hbad
   clear hbad
   gi_wp2_with (first
    | (refine ⟨trivial, rfl, ?_⟩; refine (callsIn_wide.2 HT.out).mono ?_; rintro r w2 ⟨rfl, hb2⟩; simp only [Ev.cells]; have hch := (Chg.of_below hb2).alloc (.cells #[.int .i64 e9.seq, .int .i64 e9.time, .int .u8 (e9.cpu : Int), .int .u8 (e9.kind : Int), .int .i64 e9.task, .int .i64 e9.group, .int .i64 e9.to, .int .i64 e9.weight, .int .i64 e9.ticks, .int .u64 (e9.mask : Int), .int .i64 e9.got] 24); obtain ⟨fn, tmps, assign, body, hy1, hR⟩ := hHY.out k (by simpa using hk) _ (hHJ.out k _ _ hHj.out (hch.mono (by simp))).1; simp only [List.getElem_map, HG.out, encT] at hy1))
   have hz2 := hb2.size
   have hjW := hHJ.out k _ _ hHj.out (hch.mono (by simp))
   have hnT : ∀ x, RecN B0 bb bc by' x → ¬ T (w2.alloc (.cells #[.int .i64 e9.seq, .int .i64 e9.time, .int .u8 (e9.cpu : Int), .int .u8 (e9.kind : Int), .int .i64 e9.task, .int .i64 e9.group, .int .i64 e9.to, .int .i64 e9.weight, .int .i64 e9.ticks, .int .u64 (e9.mask : Int), .int .i64 e9.got] 24)) x := fun x hx ht => hHN.out x hx (hjW.2 x ht)
   have hnx : ¬ T (w2.alloc (.cells #[.int .i64 e9.seq, .int .i64 e9.time, .int .u8 (e9.cpu : Int), .int .u8 (e9.kind : Int), .int .i64 e9.task, .int .i64 e9.group, .int .i64 e9.to, .int .i64 e9.weight, .int .i64 e9.ticks, .int .u64 (e9.mask : Int), .int .i64 e9.got] 24)) w2.heap.size := fun ht => by have := hHT.out k wr _ hHj.out (hjW.2 _ ht); omega
   have hrW := hHR.out.chg hch
   have hxW := World.alloc_heap_new w2 (.cells #[.int .i64 e9.seq, .int .i64 e9.time, .int .u8 (e9.cpu : Int), .int .u8 (e9.kind : Int), .int .i64 e9.task, .int .i64 e9.group, .int .i64 e9.to, .int .i64 e9.weight, .int .i64 e9.ticks, .int .u64 (e9.mask : Int), .int .i64 e9.got] 24)
   have HRW := hide hrW
   have HXW := hide hxW
   have HNT := hide hnT
   have HJW := hide hjW
   clear hnT hjW hrW hxW hch
   refine ⟨rfl, hR.mono ?_⟩
   rintro e W3 ⟨hkp, (⟨rfl, hj3⟩ | ⟨rfl, hx3⟩)⟩
   ·have hr3 : RecAt B B0 bb bc by' cpu bk lk A n c W3 := ⟨hkp.obj _ _ HRW.out.base rfl (HNT.out bb (.inr (.inl rfl))), hkp.obj _ _ HRW.out.cpu rfl (HNT.out bc (.inr (.inr (.inl rfl)))), hkp.obj _ _ HRW.out.bytes rfl (HNT.out by' (.inr (.inr (.inr rfl)))), HRW.out.rd.qel (fun p v hp hv => hkp.cell hv (HNT.out _ (.inl hp))), HRW.out.cap, HRW.out.small, HRW.out.len, HRW.out.laid.qel (fun p v hp hv => hkp.cell hv (HNT.out _ (.inl (by omega))))⟩
    have hE3 : EvBlk W3 w2.heap.size e9 := hkp.obj _ _ HXW.out rfl hnx
    have hnT3 : ∀ x, RecN B0 bb bc by' x → x < wr.heap.size → ¬ T W3 x := fun x hx hlt => hkp.not (by simp; omega) (HNT.out x hx)
    have hz3 := hkp.size
    simp only [World.size_alloc] at hz3
    obtain ⟨q0, q1, q2, q3, q4, q5, q6, q7, q8, q9, q10⟩ := hE3.at
    have hby := hr3.bytes
    have hbb := hr3.base
    have y0 : W3.cell? ⟨by', 0, none⟩ = some (.slice A n c) := by simp [World.cell?, hby]
    have hob := hide hby
    have hobb := hide hbb
    have hnl := HLN.out
    have hmn : m9 ≤ n := by omega
    have hnl2 : ¬ (w2.heap.size = bb) := by omega
    have hnl3 : ¬ (w2.heap.size = by') := by omega
    have hd2' : ¬ (by' = bb) := fun h => hd2 h.symm
    have hd2'' : ¬ (bb = by') := hd2
    have HOF := hide (fun W => (show Calls Tryz.prog 73 #[.agg #[.int .i64 e9.seq, .int .i64 e9.time, .int .u8 (e9.cpu : Int), .int .u8 (e9.kind : Int), .int .i64 e9.task, .int .i64 e9.group, .int .i64 e9.to, .int .i64 e9.weight, .int .i64 e9.ticks, .int .u64 (e9.mask : Int), .int .i64 e9.got]] W (fun r w' => r = .returned (.agg #[.int .i64 e9.seq, .int .i64 e9.time]) ∧ Below W.heap.size W w') from qwa e9 W))
    have hmi : (m9 : Int) ≤ (n : Int) := by omega
    clear hnl hby hbb c0 c1 c2 c3
    obtain ⟨f', rfl⟩ : ∃ f', f = f' + 1 := ⟨f - 1, by have := htl.2 HBD.out; omega⟩
    have hpos := htl.2 HBD.out
    have hcap3 := hr3.cap
    have HFIN := hide (show ∀ (w9 : World) (A' : Option Addr) (nn c' : Nat), Below W3.heap.size W3.drew w9 → Rd w9 B0 1 A' nn ((lk.drop m9).map B8) → nn ≤ c' → nn ≤ n →
      RecAt B B0 bb bc by' cpu e9.at (lk.drop m9) A' nn c' (((w9.setCell ⟨bb, 0, none⟩ (.int .i64 e9.seq)).setCell ⟨bb, 1, none⟩ (.int .i64 e9.time)).setCell ⟨by', 0, none⟩ (.slice A' nn c')) from fun w9 A' nn c' hb9 hrd hcc hnn => by
     have hB := (hb9.block bb (by omega)).trans hobb.out
     have hY := (hb9.block by' (by omega)).trans hob.out
     have hC := (hb9.block bc (by omega)).trans hr3.cpu
     have hz9 : W3.heap.size ≤ w9.heap.size := hb9.size
     refine ⟨?_, ?_, ?_, ?_, hcc, fun x hx => hr3.small x (List.mem_of_mem_drop hx), by have := hr3.len; omega, ?_⟩
     ·rw [Below.heap_setCell _ _ _ _ hd2]
      simp [World.setCell, Array.getElem?_modify, hB, Bs.cells, Ev.at]
     ·rw [Below.heap_setCell _ _ _ _ hd3, Below.heap_setCell _ _ _ _ (Ne.symm hd1), Below.heap_setCell _ _ _ _ (Ne.symm hd1)]; exact hC
     ·have h1 : ((w9.setCell ⟨bb, 0, none⟩ (.int .i64 e9.seq)).setCell ⟨bb, 1, none⟩ (.int .i64 e9.time)).heap[by']? = some (.cells #[.slice A n c] 33 (0, 0)) := by
       rw [Below.heap_setCell _ _ _ _ (Ne.symm hd2), Below.heap_setCell _ _ _ _ (Ne.symm hd2)]; exact hY
      exact qt h1 _
     ·exact ((hrd.setCell (p := ⟨bb, 0, none⟩) (by show B0 ≤ bb; omega) _).setCell (p := ⟨bb, 1, none⟩) (by show B0 ≤ bb; omega) _).setCell (p := ⟨by', 0, none⟩) (by show B0 ≤ by'; omega) _
     ·exact ((((show Laid B W3.drew from hr3.laid.qa6 (fun _ _ => rfl)).below hb9 (by omega)).setCell (p := ⟨bb, 0, none⟩) (by show B ≤ bb; omega) _).setCell (p := ⟨bb, 1, none⟩) (by show B ≤ bb; omega) _).setCell (p := ⟨by', 0, none⟩) (by show B ≤ by'; omega) _)
    have HCHG := hide (show ∀ (w9 : World) (v : Value), Below W3.heap.size W3.drew w9 → Chg [bb, by'] W3 (((w9.setCell ⟨bb, 0, none⟩ (.int .i64 e9.seq)).setCell ⟨bb, 1, none⟩ (.int .i64 e9.time)).setCell ⟨by', 0, none⟩ v) from fun w9 v hb9 =>
     ((((Chg.of_below ((Below.refl _ _).drew.trans hb9)).mono (by simp)).setCell (p := ⟨bb, 0, none⟩) (.inl (by simp)) _).setCell (p := ⟨bb, 1, none⟩) (.inl (by simp)) _).setCell (p := ⟨by', 0, none⟩) (.inl (by simp)) _)
    have HRL := hide (show ∀ x, RecN B0 bb bc by' x → x < wr.heap.size from fun x hx => by rcases hx with h | h | h | h <;> omega)
    have HCL := hide (show ∀ (w9 : World) (v : Value), w9.cell? ⟨by', 0, none⟩ = some (.slice A n c) → (((w9.setCell ⟨bb, 0, none⟩ (.int .i64 e9.seq)).setCell ⟨bb, 1, none⟩ (.int .i64 e9.time)).setCell ⟨by', 0, none⟩ v).cell? ⟨by', 0, none⟩ = some v from fun w9 v h =>
     World.cell?_setCell_same _ _ _ (by rw [qbq (p := ⟨by', 0, none⟩) (show by' ≠ bb from Ne.symm hd2), qbq (p := ⟨by', 0, none⟩) (show by' ≠ bb from Ne.symm hd2)]; exact h))
    have y0' : wr.cell? ⟨by', 0, none⟩ = some (.slice A n c) := by have := hHR.out.bytes; simp [World.cell?, this]
    have HY0 := hide y0'
    clear y0'
    have HRD := hide (show Rd W3.drew B0 1 A n (lk.map B8) from hr3.rd.drew)
    by_cases hcm : c = m9
    ·subst hcm
     gi_wp2
     refine wpIn_wide.2 ?_
     go_region_with (first
       | (go_at_call 73; refine (HOF.out W3.drew).mono ?_; rintro r w9 ⟨rfl, hb9⟩; have hz9 : W3.heap.size ≤ w9.heap.size := hb9.size; have hbx9 := (hb9.block bb (by show bb < W3.heap.size; omega)).trans hobb.out; have hyx9 := (hb9.block by' (by show by' < W3.heap.size; omega)).trans hob.out; have t0 : w9.cell? ⟨bb, 0, none⟩ = some (.int .i64 bk.seq) := by { simp [World.cell?, hbx9, Bs.cells] }; have t1 : w9.cell? ⟨bb, 1, none⟩ = some (.int .i64 bk.time) := by { simp [World.cell?, hbx9, Bs.cells] }; have t2 : ∀ oo, w9.frozen? ⟨bb, oo, none⟩ = false := fun oo => by { simp [World.frozen?, hbx9] }; have t3 : w9.cell? ⟨by', 0, none⟩ = some (.slice A n c) := by { simp [World.cell?, hyx9] }; have t4 : ∀ oo, w9.frozen? ⟨by', oo, none⟩ = false := fun oo => by { simp [World.frozen?, hyx9] }; have HBX9 := hide hbx9; have HYX9 := hide hyx9; clear hbx9 hyx9))
     all_goals
      gi_wp2
      exact ⟨⟨k + 1, f', e9.at, lk.drop c, _, _, _, by rw [HRR.out, if_neg (by simp [HBD.out])], by rw [List.length_drop]; omega, HFIN.out w9 (A) (0) (0) hb9 (Rd.below (by rw [List.drop_eq_nil_of_le (by have := HLN.out; omega)]; exact Rd.nil) ((show Below W3.heap.size W3.drew w9 from hb9).mono (by omega))) (by omega) (by omega), (hHJ.out _ _ _ hj3 (HCHG.out w9 _ hb9)).1, fun x hx ht => hnT3 x hx (HRL.out x hx) ((hHJ.out _ _ _ hj3 (HCHG.out w9 _ hb9)).2 x ht)⟩, by rw [HCL.out w9 _ t3, HY0.out]; simp; omega⟩
    ·gi_wp2
     refine wpIn_wide.2 ?_
     go_region_with (first
       | (go_at_call 73; refine (HOF.out W3.drew).mono ?_; rintro r w9 ⟨rfl, hb9⟩; have hz9 : W3.heap.size ≤ w9.heap.size := hb9.size; have hbx9 := (hb9.block bb (by show bb < W3.heap.size; omega)).trans hobb.out; have hyx9 := (hb9.block by' (by show by' < W3.heap.size; omega)).trans hob.out; have t0 : w9.cell? ⟨bb, 0, none⟩ = some (.int .i64 bk.seq) := by { simp [World.cell?, hbx9, Bs.cells] }; have t1 : w9.cell? ⟨bb, 1, none⟩ = some (.int .i64 bk.time) := by { simp [World.cell?, hbx9, Bs.cells] }; have t2 : ∀ oo, w9.frozen? ⟨bb, oo, none⟩ = false := fun oo => by { simp [World.frozen?, hbx9] }; have t3 : w9.cell? ⟨by', 0, none⟩ = some (.slice A n c) := by { simp [World.cell?, hyx9] }; have t4 : ∀ oo, w9.frozen? ⟨by', oo, none⟩ = false := fun oo => by { simp [World.frozen?, hyx9] }; have HBX9 := hide hbx9; have HYX9 := hide hyx9; clear hbx9 hyx9))
     all_goals
      gi_wp2
      exact ⟨⟨k + 1, f', e9.at, lk.drop m9, _, _, _, by rw [HRR.out, if_neg (by simp [HBD.out])], by rw [List.length_drop]; omega, HFIN.out w9 (_) (n - m9) (_) hb9 (Rd.below (by have h := HRD.out.from (k := m9) (cap := c) (by omega) (by omega); rw [if_neg hcm, Nat.mul_one, ← List.map_drop] at h; exact h) ((show Below W3.heap.size W3.drew w9 from hb9).mono (by omega))) (by omega) (by omega), (hHJ.out _ _ _ hj3 (HCHG.out w9 _ hb9)).1, fun x hx ht => hnT3 x hx (HRL.out x hx) ((hHJ.out _ _ _ hj3 (HCHG.out w9 _ hb9)).2 x ht)⟩, by rw [HCL.out w9 _ t3, HY0.out]; simp; omega⟩
   ·gi_wp2
    refine bodyPost_ret (results_none rfl _ _ _) rfl ?_
    exact ⟨⟨_, rfl⟩, .inr ⟨k + 1, by omega, by simp; omega, hx3⟩⟩
  ·have hne : ((er : Int) != 0) = true := by rw [bne_iff_ne]; omega
   have HBD := hide hbad
   clear hbad
   gi_wp2_with (first
    | (refine ⟨trivial, rfl, ?_⟩; refine (callsIn_wide.2 HT.out).mono ?_; rintro r w2 ⟨rfl, hb2⟩; simp only [Ev.cells]; have hch := (Chg.of_below hb2).alloc (.cells #[.int .i64 e9.seq, .int .i64 e9.time, .int .u8 (e9.cpu : Int), .int .u8 (e9.kind : Int), .int .i64 e9.task, .int .i64 e9.group, .int .i64 e9.to, .int .i64 e9.weight, .int .i64 e9.ticks, .int .u64 (e9.mask : Int), .int .i64 e9.got] 24); obtain ⟨fn, tmps, assign, body, hy1, hR⟩ := hHY.out k (by simpa using hk) _ (hHJ.out k _ _ hHj.out (hch.mono (by simp))).1; simp only [List.getElem_map, HG.out, encT] at hy1))
   refine ⟨rfl, hR.mono ?_⟩
   have hlast : (qcu (l0.length + 1) b cpu l0).length = k + 1 := by
    have h1 := HRR.out
    rw [if_pos HBD.out] at h1
    have := List.drop_eq_nil_iff.1 h1
    omega
   have HLA := hide hlast
   clear hlast
   rintro e W3 ⟨hkp, (⟨rfl, hj3⟩ | ⟨rfl, hx3⟩)⟩
   ·gi_wp2
    refine bodyPost_ret (results_none rfl _ _ _) rfl ?_
    refine ⟨⟨_, rfl⟩, .inl ?_⟩
    rw [List.length_map, HLA.out]; exact hj3
   ·gi_wp2
    refine bodyPost_ret (results_none rfl _ _ _) rfl ?_
    exact ⟨⟨_, rfl⟩, .inr ⟨k + 1, by omega, by simp; omega, hx3⟩⟩
end Go.Proofs.YtnakabnmjnfpcaaGreatDoor
namespace Go.Proofs.YtnakabnmjnfpcaaGreatDoor
open Go.RowKit
set_option maxRecDepth 100000 in
set_option maxHeartbeats 2000000 in
theorem qf4 (k i : Nat) (hi : i < 7) (hk : k < 256) (w : World) :
  Calls Tryz.prog 79 #[.int .u8 (k : Int), .int .i64 (i : Int)] w fun r w' => r = .returned (.bool ((usesL k).contains i)) ∧ w' = w := by
 obtain rfl | rfl | rfl | rfl | rfl | rfl | rfl | rfl | rfl | rfl | ⟨hu, hk'⟩ := qe6 k
 case inr.inr.inr.inr.inr.inr.inr.inr.inr.inr =>
  have b1 : ((k : Int) == 1) = false := by rw [beq_eq_false_iff_ne]; omega
  have b2 : ((k : Int) == 2) = false := by rw [beq_eq_false_iff_ne]; omega
  have b3 : ((k : Int) == 3) = false := by rw [beq_eq_false_iff_ne]; omega
  have b4 : ((k : Int) == 4) = false := by rw [beq_eq_false_iff_ne]; omega
  have b5 : ((k : Int) == 5) = false := by rw [beq_eq_false_iff_ne]; omega
  have b6 : ((k : Int) == 6) = false := by rw [beq_eq_false_iff_ne]; omega
  have b7 : ((k : Int) == 7) = false := by rw [beq_eq_false_iff_ne]; omega
  have b8 : ((k : Int) == 8) = false := by rw [beq_eq_false_iff_ne]; omega
  have b9 : ((k : Int) == 9) = false := by rw [beq_eq_false_iff_ne]; omega
  have b10 : ((k : Int) == 10) = false := by rw [beq_eq_false_iff_ne]; omega
  have HU := hide (show (usesL k).contains i = false by rw [hu]; rfl)
  clear hu hk'
  go_enter Tryz.func79, Tryz.ntmps79
  go_wp2
  go_ret
  exact ⟨by rw [HU.out]; rfl, rfl⟩
 all_goals
  generalize hv : List.contains _ i = v
  have HV := hide hv
  clear hv
  go_enter Tryz.func79, Tryz.ntmps79
  go_wp2
  all_goals
   go_ret
   refine ⟨?_, rfl⟩
   rw [← HV.out]
   obtain rfl | rfl | rfl | rfl | rfl | rfl | rfl : i = 0 ∨ i = 1 ∨ i = 2 ∨ i = 3 ∨ i = 4 ∨ i = 5 ∨ i = 6 := by omega
   all_goals first | rfl | (exfalso; omega) | (simp at *)
structure FieldPost (w : World) (e : Ev) (i : Nat) (r : Ending) (w' : World) : Prop where
 ret : r = .returned (.tuple #[.int .u64 (e.num i), .bool (decide (0 ≤ e.fld i))])
 below : Below w.heap.size w w'
set_option maxRecDepth 100000 in
set_option maxHeartbeats 2000000 in
theorem qfe (e : Ev) (he : e.Ok) (i : Nat) (hi : i < 7) (w : World) :
  Calls Tryz.prog 81 #[.agg e.cells, .int .i64 (i : Int)] w (FieldPost w e i) := by
 have c4 : e.cells[4]? = some (.int .i64 e.task) := rfl
 have c5 : e.cells[5]? = some (.int .i64 e.group) := rfl
 have c6 : e.cells[6]? = some (.int .i64 e.to) := rfl
 have c7 : e.cells[7]? = some (.int .i64 e.weight) := rfl
 have c8 : e.cells[8]? = some (.int .i64 e.ticks) := rfl
 have c9 : e.cells[9]? = some (.int .u64 (e.mask : Int)) := rfl
 have c10 : e.cells[10]? = some (.int .i64 e.got) := rfl
 have hm : IntKind.u64.wrap (e.mask : Int) = (e.mask : Int) := by have := he.mask; rw [IntKind.wrap_u64]; omega
 have Hm := hide hm
 clear hm he
 generalize e.cells = cs at c4 c5 c6 c7 c8 c9 c10 ⊢
 obtain rfl | rfl | rfl | rfl | rfl | rfl | rfl : i = 0 ∨ i = 1 ∨ i = 2 ∨ i = 3 ∨ i = 4 ∨ i = 6 ∨ i = 5 := by omega
 case inr.inr.inr.inr.inr.inr =>
  go_enter Tryz.func81, Tryz.ntmps81
  go_wp2
  go_ret2
  exact ⟨by unfold Ev.num Ev.fld; simp [Hm.out], (Below.refl _ _).alloc (Nat.le_refl _) _⟩
 all_goals
  go_enter Tryz.func81, Tryz.ntmps81
  go_wp2
  go_quiet (fail)
  go_wp2
  go_ret2
  exact ⟨rfl, below_drewN (((Below.refl _ _).alloc (Nat.le_refl _) _).alloc (by simp) _) _⟩
def Ev.rval (x : Nat) : Int := if x < 4611686018427387904 then (x : Int) else -1
def Ev.rput (e : Ev) (i x : Nat) : Ev := e.putV i (Ev.rval x) x
structure AggPost (w : World) (cs : Array Value) (r : Ending) (w' : World) : Prop where
 ret : r = .returned (.agg cs)
 below : Below w.heap.size w w'
structure At11 (w : World) (b : Nat) (v0 v1 v2 v3 v4 v5 v6 v7 v8 v9 v10 : Value) : Prop where
 h0 : w.cell? ⟨b, 0, none⟩ = some v0
 h1 : w.cell? ⟨b, 1, none⟩ = some v1
 h2 : w.cell? ⟨b, 2, none⟩ = some v2
 h3 : w.cell? ⟨b, 3, none⟩ = some v3
 h4 : w.cell? ⟨b, 4, none⟩ = some v4
 h5 : w.cell? ⟨b, 5, none⟩ = some v5
 h6 : w.cell? ⟨b, 6, none⟩ = some v6
 h7 : w.cell? ⟨b, 7, none⟩ = some v7
 h8 : w.cell? ⟨b, 8, none⟩ = some v8
 h9 : w.cell? ⟨b, 9, none⟩ = some v9
 h10 : w.cell? ⟨b, 10, none⟩ = some v10
theorem qvo (w : World) (v0 v1 v2 v3 v4 v5 v6 v7 v8 v9 v10 : Value) (T1 T2 : TypeId) :
  At11 ((w.alloc (.cells #[v0, v1, v2, v3, v4, v5, v6, v7, v8, v9, v10] T1)).alloc (.cells #[v0, v1, v2, v3, v4, v5, v6, v7, v8, v9, v10] T2)) (w.heap.size + 1) v0 v1 v2 v3 v4 v5 v6 v7 v8 v9 v10 := by
 have h := fun i => World.cell?_alloc_new (w.alloc (.cells #[v0, v1, v2, v3, v4, v5, v6, v7, v8, v9, v10] T1)) #[v0, v1, v2, v3, v4, v5, v6, v7, v8, v9, v10] T2 i
 rw [World.size_alloc] at h
 exact ⟨h 0, h 1, h 2, h 3, h 4, h 5, h 6, h 7, h 8, h 9, h 10⟩
theorem qki {P : Program} {fn : Func} {t : Tmp} {ty : TypeId} {tmps : Array Value} {w : World} {b : Nat} {v0 v1 v2 v3 v4 v5 v6 v7 v8 v9 v10 : Value} (h : fn.results = #[.cell t ty]) (ht : tmps.getD t undef = .pointer (some ⟨b, 0, none⟩))
  (hagg : (isAgg ty).run P w = .ok true w) (hsz : (sizeOf ty).run P w = .ok 11 w) (hE : At11 w b v0 v1 v2 v3 v4 v5 v6 v7 v8 v9 v10) : (results fn tmps).run P w = .ok (.agg #[v0, v1, v2, v3, v4, v5, v6, v7, v8, v9, v10]) w := by
 obtain ⟨h0, h1, h2, h3, h4, h5, h6, h7, h8, h9, h10⟩ := hE
 simp at ht
 simp [results, h, ht, hagg, hsz, go_sem, h0, h1, h2, h3, h4, h5, h6, h7, h8, h9, h10]
set_option maxRecDepth 100000 in
set_option maxHeartbeats 2000000 in
theorem qpx (s t c k a g o z y m u : Int) (i : Nat) (X v : Int) (hi : i < 7) (hx : 0 ≤ X ∧ X ≤ 18446744073709551615) (hxv : (X < 4611686018427387904 ∧ v = X) ∨ (4611686018427387904 ≤ X ∧ v = -1)) (w : World) :
  Calls Tryz.prog 105 #[.agg #[.int .i64 s, .int .i64 t, .int .u8 c, .int .u8 k, .int .i64 a, .int .i64 g, .int .i64 o, .int .i64 z, .int .i64 y, .int .u64 m, .int .i64 u], .int .i64 (i : Int), .int .u64 X] w
   (AggPost w (Array.setIfInBounds #[.int .i64 s, .int .i64 t, .int .u8 c, .int .u8 k, .int .i64 a, .int .i64 g, .int .i64 o, .int .i64 z, .int .i64 y, .int .u64 m, .int .i64 u] (4 + i) (if i = 5 then .int .u64 X else .int .i64 v))) := by
 have hagg : ∀ W : World, (isAgg 58).run Tryz.prog W = .ok true W := fun _ => by kernel_rfl
 have hsize : ∀ W : World, (sizeOf 58).run Tryz.prog W = .ok 11 W := fun _ => by kernel_rfl
 have Hagg := hide hagg
 have Hsize := hide hsize
 clear hagg hsize
 obtain ⟨hx1, hx2⟩ := hx
 rcases hxv with ⟨hl, rfl⟩ | ⟨hl, rfl⟩
 all_goals
  obtain rfl | rfl | rfl | rfl | rfl | rfl | rfl : i = 0 ∨ i = 1 ∨ i = 2 ∨ i = 3 ∨ i = 4 ∨ i = 6 ∨ i = 5 := by omega
  all_goals
   go_enter Tryz.func105, Tryz.ntmps105
   go_wp2
   refine bodyPost_ret ?_ rfl ⟨rfl, ((Below.refl _ _).alloc (Nat.le_refl _) _).alloc (by simp) _⟩
   exact qki (t := 6) rfl rfl (Hagg.out _) (Hsize.out _) (qvo w _ _ _ _ _ _ _ _ _ _ _ _ _)
theorem qpy (e : Ev) (i x : Nat) (hi : i < 7) : e.cells.setIfInBounds (4 + i) (if i = 5 then .int .u64 (x : Int) else .int .i64 (Ev.rval x)) = (e.rput i x).cells := by
 unfold Ev.rput
 generalize Ev.rval x = v
 obtain rfl | rfl | rfl | rfl | rfl | rfl | rfl : i = 0 ∨ i = 1 ∨ i = 2 ∨ i = 3 ∨ i = 4 ∨ i = 6 ∨ i = 5 := by omega
 all_goals simp [Ev.cells, Ev.putV, Array.setIfInBounds]
theorem qpz (e : Ev) (i x : Nat) (hi : i < 7) (hx : x < 18446744073709551616) (w : World) :
  Calls Tryz.prog 105 #[.agg e.cells, .int .i64 (i : Int), .int .u64 (x : Int)] w (AggPost w (e.rput i x).cells) := by
 rw [← qpy e i x hi]
 refine qpx _ _ _ _ _ _ _ _ _ _ _ i x (Ev.rval x) hi ⟨by omega, by omega⟩ ?_ w
 unfold Ev.rval
 split
 ·exact .inl ⟨by omega, rfl⟩
 ·exact .inr ⟨by omega, rfl⟩
def qyo (m : Nat) (c : Nat) (n k : Value) : Prop := ∃ j x : Nat, j ≤ c ∧ n = .int .u64 (x : Int) ∧ k = .int .u8 (j : Int) ∧ x ≤ m ∧ x = m / 2 ^ j
structure BoolPost (w : World) (b : Bool) (r : Ending) (w' : World) : Prop where
 ret : r = .returned (.bool b)
 below : Below w.heap.size w w'
set_option maxRecDepth 100000 in
set_option maxHeartbeats 2000000 in
theorem qlw (e : Ev) (he : e.Ok) (hc : e.cpu < 64) (i : Nat) (hi : i < 7) (w : World) :
  Calls Tryz.prog 80 #[.agg e.cells, .int .i64 (i : Int)] w (BoolPost w (e.within i)) := by
 have HF := hide (qfe e he i hi (w.alloc (.cells e.cells 58)))
 have hb1 : Below w.heap.size w (w.alloc (.cells e.cells 58)) := (Below.refl _ _).alloc (Nat.le_refl _) _
 have hev := EvAt.new w e 58
 have hne := qnz he i
 have hm := he.mask
 clear he
 unfold Ev.cells at *
 by_cases h0 : 0 ≤ e.fld i
 ·have hnum := hne h0
  have hd : decide (0 ≤ e.fld i) = true := by simpa using h0
  generalize hww : e.within i = b
  have HW := hide hww
  clear hww hne
  obtain rfl | rfl | rfl | rfl | rfl | rfl | rfl : i = 0 ∨ i = 1 ∨ i = 2 ∨ i = 3 ∨ i = 4 ∨ i = 6 ∨ i = 5 := by omega
  all_goals
   have h1 := h0
   simp only [Ev.fld] at hnum h1
  ·go_enter Tryz.func80, Tryz.ntmps80
   go_wp2_with (go_at_call 81; refine HF.out.mono ?_; rintro r w1 ⟨rfl, hb2⟩; have hev1 := hev.below hb2 (by simp); have hkd := hev1.kind; have hcp := hev1.cpu)
   all_goals
    go_ret
    refine ⟨congrArg (fun b => Ending.returned (.bool b)) ?_, hb1.trans (hb2.mono (by simp))⟩
    rw [← HW.out, Bool.eq_iff_iff]; simp [Ev.within]; omega
  ·by_cases hk : e.kind = 8
   ·have hkb : ((e.kind : Int) != 8) = false := by rw [bne_eq_false_iff_eq]; omega
    have HK := hide hk
    clear hk
    go_enter Tryz.func80, Tryz.ntmps80
    go_wp2_with (go_at_call 81; refine HF.out.mono ?_; rintro r w1 ⟨rfl, hb2⟩; have hev1 := hev.below hb2 (by simp); have hkd := hev1.kind; have hcp := hev1.cpu)
    all_goals
     go_ret
     refine ⟨congrArg (fun b => Ending.returned (.bool b)) ?_, hb1.trans (hb2.mono (by simp))⟩
     rw [← HW.out, Bool.eq_iff_iff]; simp [Ev.within, HK.out]; omega
   ·have hkb : ((e.kind : Int) != 8) = true := by rw [bne_iff_ne]; omega
    have HK := hide hk
    clear hk
    go_enter Tryz.func80, Tryz.ntmps80
    go_wp2_with (go_at_call 81; refine HF.out.mono ?_; rintro r w1 ⟨rfl, hb2⟩; have hev1 := hev.below hb2 (by simp); have hkd := hev1.kind; have hcp := hev1.cpu)
    all_goals
     go_ret
     refine ⟨congrArg (fun b => Ending.returned (.bool b)) ?_, hb1.trans (hb2.mono (by simp))⟩
     rw [← HW.out, Bool.eq_iff_iff]; simp [Ev.within, HK.out]; omega
  ·go_enter Tryz.func80, Tryz.ntmps80
   go_wp2_with (go_at_call 81; refine HF.out.mono ?_; rintro r w1 ⟨rfl, hb2⟩; have hev1 := hev.below hb2 (by simp); have hkd := hev1.kind; have hcp := hev1.cpu)
   all_goals
    go_ret
    refine ⟨congrArg (fun b => Ending.returned (.bool b)) ?_, hb1.trans (hb2.mono (by simp))⟩
    rw [← HW.out, Bool.eq_iff_iff]; simp [Ev.within]; omega
  ·go_enter Tryz.func80, Tryz.ntmps80
   go_wp2_with (go_at_call 81; refine HF.out.mono ?_; rintro r w1 ⟨rfl, hb2⟩; have hev1 := hev.below hb2 (by simp); have hkd := hev1.kind; have hcp := hev1.cpu)
   all_goals
    go_ret
    refine ⟨congrArg (fun b => Ending.returned (.bool b)) ?_, hb1.trans (hb2.mono (by simp))⟩
    rw [← HW.out, Bool.eq_iff_iff]; simp [Ev.within]; omega
  ·go_enter Tryz.func80, Tryz.ntmps80
   go_wp2_with (go_at_call 81; refine HF.out.mono ?_; rintro r w1 ⟨rfl, hb2⟩; have hev1 := hev.below hb2 (by simp); have hkd := hev1.kind; have hcp := hev1.cpu)
   all_goals
    go_ret
    refine ⟨congrArg (fun b => Ending.returned (.bool b)) ?_, hb1.trans (hb2.mono (by simp))⟩
    rw [← HW.out, Bool.eq_iff_iff]; simp [Ev.within]; omega
  ·by_cases hk : e.kind = 5
   ·have hkb : ((e.kind : Int) == 5) = true := by rw [beq_iff_eq]; omega
    have HK := hide hk
    clear hk
    go_enter Tryz.func80, Tryz.ntmps80
    go_wp2_with (go_at_call 81; refine HF.out.mono ?_; rintro r w1 ⟨rfl, hb2⟩; have hev1 := hev.below hb2 (by simp); have hkd := hev1.kind; have hcp := hev1.cpu)
    all_goals
     go_ret
     refine ⟨congrArg (fun b => Ending.returned (.bool b)) ?_, hb1.trans (hb2.mono (by simp))⟩
     rw [← HW.out, Bool.eq_iff_iff]; simp [Ev.within, HK.out]; omega
   ·have hkb : ((e.kind : Int) == 5) = false := by rw [beq_eq_false_iff_ne]; omega
    by_cases hk6 : e.kind = 6
    ·have hkb6 : ((e.kind : Int) == 6) = true := by rw [beq_iff_eq]; omega
     have HK := hide hk6
     clear hk hk6
     go_enter Tryz.func80, Tryz.ntmps80
     go_wp2_with (go_at_call 81; refine HF.out.mono ?_; rintro r w1 ⟨rfl, hb2⟩; have hev1 := hev.below hb2 (by simp); have hkd := hev1.kind; have hcp := hev1.cpu)
     all_goals
      go_ret
      refine ⟨congrArg (fun b => Ending.returned (.bool b)) ?_, hb1.trans (hb2.mono (by simp))⟩
      rw [← HW.out, Bool.eq_iff_iff]; simp [Ev.within, HK.out]; omega
    ·have hkb6 : ((e.kind : Int) == 6) = false := by rw [beq_eq_false_iff_ne]; omega
     have HK := hide hk
     have HK6 := hide hk6
     clear hk hk6
     go_enter Tryz.func80, Tryz.ntmps80
     go_wp2_with (go_at_call 81; refine HF.out.mono ?_; rintro r w1 ⟨rfl, hb2⟩; have hev1 := hev.below hb2 (by simp); have hkd := hev1.kind; have hcp := hev1.cpu)
     all_goals
      go_ret
      refine ⟨congrArg (fun b => Ending.returned (.bool b)) ?_, hb1.trans (hb2.mono (by simp))⟩
      rw [← HW.out, Bool.eq_iff_iff]; simp [Ev.within, HK.out, HK6.out]; omega
  ·go_enter Tryz.func80, Tryz.ntmps80
   go_wp2_with (go_at_call 81; refine HF.out.mono ?_; rintro r w1 ⟨rfl, hb2⟩; have hev1 := hev.below hb2 (by simp); have hcp := hev1.cpu)
   have hmm : (e.mask : Int) < 18446744073709551616 := by omega
   go_loop [5, 7] (qyo e.mask e.cpu) (fun _ k => e.cpu - (intOf k).toNat)
   case atStart => exact ⟨0, e.mask, by omega, rfl, rfl, by omega, by simp⟩
   case round =>
    obtain ⟨j, x, hj, rfl, rfl, hxm, hx⟩ := hrel
    have HX := hide hx
    clear hx
    by_cases hlt : j < e.cpu
    ·go_wp2
     refine ⟨⟨j + 1, x / 2, by omega, by simp, by go_num, by omega, ?_⟩, by simp [intOf]; omega⟩
     rw [HX.out, Nat.div_div_eq_div_mul, Nat.pow_succ]
    ·obtain rfl : j = e.cpu := by omega
     go_wp2
     go_ret
     refine ⟨congrArg (fun b => Ending.returned (.bool b)) ?_, hb1.trans (hb2.mono (by simp))⟩
     rw [← HW.out, Bool.eq_iff_iff]; simp [Ev.within, ← HX.out]; omega
 ·have hw : e.within i = false := by
   rw [← Bool.not_eq_true]; intro h; exact h0 (qal h)
  have hd : decide (0 ≤ e.fld i) = false := by simpa using h0
  rw [hw]
  clear hw hne
  go_enter Tryz.func80, Tryz.ntmps80
  go_wp2_with (go_at_call 81; refine HF.out.mono ?_; rintro r w1 ⟨rfl, hb2⟩)
  go_ret
  exact ⟨rfl, hb1.trans (hb2.mono (by simp))⟩
structure StrPost (w : World) (full : Bool) (r : Ending) (w' : World) : Prop where
 ret : ∃ s : ByteArray, r = .returned (.string s) ∧ s.toList.isEmpty = !full
 below : Below w.heap.size w w'
set_option maxRecDepth 100000 in
set_option maxHeartbeats 2000000 in
theorem qgv (k : Nat) (hk : k < 256) (w : World) :
  Calls Tryz.prog 78 #[.int .u8 (k : Int)] w (StrPost w (decide (1 ≤ k ∧ k ≤ 10))) := by
 by_cases h : 10 < k
 ·have h' : (10 : Int) < (k : Int) := by omega
  have H := hide (show decide (1 ≤ k ∧ k ≤ 10) = false by simp; omega)
  rw [H.out]
  clear h
  go_enter Tryz.func78, Tryz.ntmps78
  go_wp2
  go_ret
  exact ⟨⟨_, rfl, by rw [ByteArray.toList_eq]; rfl⟩, Below.refl _ _⟩
 ·obtain rfl | rfl | rfl | rfl | rfl | rfl | rfl | rfl | rfl | rfl | rfl : k = 0 ∨ k = 1 ∨ k = 2 ∨ k = 3 ∨ k = 4 ∨ k = 5 ∨ k = 6 ∨ k = 7 ∨ k = 8 ∨ k = 9 ∨ k = 10 := by omega
  all_goals
   go_enter Tryz.func78, Tryz.ntmps78
   go_wp2
   go_ret
   exact ⟨⟨_, rfl, by rw [ByteArray.toList_eq]; rfl⟩, (Below.refl _ _).alloc (Nat.le_refl _) _⟩
def qwo (P : Nat → Bool) (b : Nat) (w1 : World) (i : Value) (wr : World) : Prop :=
 ∃ k : Nat, k ≤ 7 ∧ i = .int .i64 (k : Int) ∧ (List.range k).all P = true ∧ Below b w1 wr
theorem qp0 (l : List Nat) (hl : ∀ i ∈ l, i < 7) (P : Nat → Bool) : (List.range 7).all (fun i => !(l.contains i && !P i)) = l.all P := by
 rw [Bool.eq_iff_iff, List.all_eq_true, List.all_eq_true]
 constructor
 ·intro h i hi
  have := h i (by simp; exact hl i hi)
  simpa [hi] using this
 ·intro h i _
  by_cases hi : i ∈ l
  ·simp [hi, h i hi]
  ·simp [hi]
structure IntPost (w : World) (n : Nat) (r : Ending) (w' : World) : Prop where
 ret : r = .returned (.int .i64 (n : Int))
 below : Below w.heap.size w w'
set_option maxRecDepth 100000 in
set_option maxHeartbeats 2000000 in
theorem qff (e : Ev) (he : e.Ok) (w : World) :
  Calls Tryz.prog 61 #[.agg e.cells] w (IntPost w e.check) := by
 have hev := EvAt.new w e 58
 have hb1 : Below w.heap.size w (w.alloc (.cells e.cells 58)) := (Below.refl _ _).alloc (Nat.le_refl _) _
 have HN := hide (fun W => qgv e.kind he.kind W)
 have HF := hide (fun i (hi : i < 7) W => qfe e he i hi W)
 have HW := hide (fun (hc : e.cpu < 64) i (hi : i < 7) W => qlw e he hc i hi W)
 have HH := hide (fun i (hi : i < 7) W => qf4 e.kind i hi he.kind W)
 have HZ := hide (fun i => qn0 he i)
 have hsz : (w.alloc (.cells e.cells 58)).heap.size = w.heap.size + 1 := by simp
 have h3 := hev.kind
 unfold Ev.cells at *
 by_cases hk : e.kind = 0 ∨ 10 < e.kind
 ·have HC := hide (show e.check = 60 by unfold Ev.check; rw [if_pos hk])
  have hd : Hid (decide (1 ≤ e.kind ∧ e.kind ≤ 10) = false) := hide (by simp; omega)
  rw [hd.out] at HN
  clear hk
  go_enter Tryz.func61, Tryz.ntmps61
  go_wp2_with (go_at_call 78; refine (HN.out _).mono ?_; rintro r w1 ⟨⟨s, rfl, hs0⟩, hb2⟩; have hs : s.toList.isEmpty = true := hs0; clear hs0; have hev1 := hev.below hb2 (by omega); obtain ⟨k0, k1, k2, k3, k4, k5, k6, k7, k8, k9, k10⟩ := id hev1)
  go_ret
  exact ⟨by rw [HC.out]; rfl, hb1.trans (hb2.mono (by omega))⟩
 ·have hd : Hid (decide (1 ≤ e.kind ∧ e.kind ≤ 10) = true) := hide (by simp; omega)
  rw [hd.out] at HN
  by_cases hr : e.seq < 1 ∨ 281474976710656 < e.seq ∨ e.time < 0 ∨ 281474976710656 < e.time ∨ 64 ≤ e.cpu
  ·have hck : e.check = 61 := by unfold Ev.check; rw [if_neg hk, if_pos hr]
   have HC := hide hck
   have hcase : (e.seq < 1) ∨ (1 ≤ e.seq ∧ 281474976710656 < e.seq) ∨ (1 ≤ e.seq ∧ e.seq ≤ 281474976710656 ∧ e.time < 0) ∨ (1 ≤ e.seq ∧ e.seq ≤ 281474976710656 ∧ 0 ≤ e.time ∧ 281474976710656 < e.time) ∨ (1 ≤ e.seq ∧ e.seq ≤ 281474976710656 ∧ 0 ≤ e.time ∧ e.time ≤ 281474976710656 ∧ (63 : Int) < e.cpu) := by omega
   clear hck hk hr
   rcases hcase with a1 | ⟨a1, a2⟩ | ⟨a1, a2, a3⟩ | ⟨a1, a2, a3, a4⟩ | ⟨a1, a2, a3, a4, a5⟩
   all_goals
    go_enter Tryz.func61, Tryz.ntmps61
    go_wp2_with (go_at_call 78; refine (HN.out _).mono ?_; rintro r w1 ⟨⟨s, rfl, hs0⟩, hb2⟩; have hs : s.toList.isEmpty = false := hs0; clear hs0; have hev1 := hev.below hb2 (by omega); obtain ⟨k0, k1, k2, k3, k4, k5, k6, k7, k8, k9, k10⟩ := id hev1)
    go_ret
    exact ⟨by rw [HC.out]; rfl, hb1.trans (hb2.mono (by omega))⟩
  ·have hr1 : 1 ≤ e.seq := by omega
   have hr2 : e.seq ≤ 281474976710656 := by omega
   have hr3 : 0 ≤ e.time := by omega
   have hr4 : e.time ≤ 281474976710656 := by omega
   have hr5 : (e.cpu : Int) ≤ 63 := by omega
   have HR := hide hr
   have HK := hide hk
   clear hr hk
   go_enter Tryz.func61, Tryz.ntmps61
   go_wp2_with (go_at_call 78; refine (HN.out _).mono ?_; rintro r w1 ⟨⟨s, rfl, hs0⟩, hb2⟩; have hs : s.toList.isEmpty = false := hs0; clear hs0; have hev1 := hev.below hb2 (by omega); obtain ⟨k0, k1, k2, k3, k4, k5, k6, k7, k8, k9, k10⟩ := id hev1)
   have hb3 := hb1.trans (hb2.mono (by omega))
   have hs1 := hb2.size
   clear k0 k1 k2 k3 k4 k5 k6 k7 k8 k9 k10 h3 hb1 hev
   go_loopw [3] (qwo (fun i => !((usesL e.kind).contains i && !e.within i)) (w.heap.size + 1) w1) (fun i _ => 7 - (intOf i).toNat)
   case atStart => exact ⟨0, by omega, rfl, by simp, Below.refl _ _⟩
   case round =>
    obtain ⟨k, hk7, rfl, hall, hbr⟩ := hrel
    have hevr := hev1.below hbr (by omega)
    obtain ⟨m0, m1, m2, m3, m4, m5, m6, m7, m8, m9, m10⟩ := id hevr
    have hsr := hbr.size
    by_cases hlt : k < 7
    ·have HQ := hide (List.range_succ (n := k))
     have HA := hide hall
     have HHk := hide (HH.out k hlt wr)
     have HWk := hide (HW.out (by omega) k hlt wr)
     have hlt' : (k : Int) < 7 := by omega
     clear hall
     by_cases hc : (usesL e.kind).contains k = true
     ·rw [hc] at HHk
      by_cases hw : e.within k = true
      ·rw [hw] at HWk
       go_wp2_with (first | (go_at_call 79; refine HHk.out.mono ?_; rintro r w2 ⟨rfl, rfl⟩) | (go_at_call 80; refine HWk.out.mono ?_; rintro r w2 ⟨rfl, hb4⟩))
       refine ⟨⟨k + 1, by omega, by go_num, ?_, hbr.trans (hb4.mono (by omega))⟩, by simp [intOf]; omega⟩
       rw [HQ.out, List.all_append, HA.out]; simp [hw]
      ·rw [show e.within k = false by simpa using hw] at HWk
       go_wp2_with (first | (go_at_call 79; refine HHk.out.mono ?_; rintro r w2 ⟨rfl, rfl⟩) | (go_at_call 80; refine HWk.out.mono ?_; rintro r w2 ⟨rfl, hb4⟩))
       go_ret
       refine ⟨?_, hb3.trans ((hbr.trans (hb4.mono (by omega))).mono (by omega))⟩
       have : e.check = 61 := by
        have h61 : (usesL e.kind).all e.within = false := by rw [List.all_eq_false]; exact ⟨k, by simpa using hc, by simpa using hw⟩
        unfold Ev.check; rw [if_neg HK.out, if_neg HR.out, if_pos h61]
       rw [this]; rfl
     ·have hcf : (usesL e.kind).contains k = false := by simpa using hc
      rw [hcf] at HHk
      go_wp2_with (go_at_call 79; refine HHk.out.mono ?_; rintro r w2 ⟨rfl, rfl⟩)
      refine ⟨⟨k + 1, by omega, by go_num, ?_, hbr⟩, by simp [intOf]; omega⟩
      rw [HQ.out, List.all_append, HA.out]; simp only [List.all_cons, List.all_nil, hcf]; rfl
    ·have hge7 : (7 : Int) ≤ (k : Int) := by omega
     have hwa : (usesL e.kind).all e.within = true := by rw [← qp0 _ (qa0 e.kind)]; rw [show k = 7 by omega] at hall; exact hall
     have HA := hide hwa
     clear hall hwa
     go_wp2
     clear m0 m1 m2 m3 m4 m5 m6 m7 m8 m9 m10 hlt hk7
     obtain ⟨wo, rfl⟩ : ∃ wo : World, wo = wr := ⟨_, rfl⟩
     go_loopw [4] (qwo (fun i => decide (e.fld i = 0) || (usesL e.kind).contains i) (w.heap.size + 1) wo) (fun i _ => 7 - (intOf i).toNat)
     case atStart => exact ⟨0, by omega, rfl, by simp, Below.refl _ _⟩
     case round =>
      obtain ⟨k2, hk7, rfl, hall, hbq⟩ := hrel
      have hevq := hevr.below hbq (by omega)
      obtain ⟨m0, m1, m2, m3, m4, m5, m6, m7, m8, m9, m10⟩ := id hevq
      have hsq := hbq.size
      by_cases hlt : k2 < 7
      ·have HQ := hide (List.range_succ (n := k2))
       have HB := hide hall
       have HFk := hide (HF.out k2 hlt wr)
       have HHk := HH.out k2 hlt
       have HZk := hide (HZ.out k2)
       have hlt' : (k2 : Int) < 7 := by omega
       clear hall
       by_cases hc : (usesL e.kind).contains k2 = true
       ·rw [hc] at HHk
        have HHk := hide HHk
        go_wp2_with (first | (go_at_call 81; refine HFk.out.mono ?_; rintro r w2 ⟨rfl, hb4⟩; have hk2 := (hevq.below hb4 hevq.lt).kind) | (go_at_call 79; refine (HHk.out _).mono ?_; rintro r w3 ⟨rfl, rfl⟩))
        refine ⟨⟨k2 + 1, by omega, by go_num, ?_, hbq.trans (hb4.mono (by omega))⟩, by simp [intOf]; omega⟩
        rw [HQ.out, List.all_append, HB.out]; simp only [List.all_cons, List.all_nil, hc]; simp
       ·have hcf : (usesL e.kind).contains k2 = false := by simpa using hc
        rw [hcf] at HHk
        have HHk := hide HHk
        by_cases hz : e.fld k2 = 0
        ·have hnz : (e.num k2 != 0) = false := by simp [HZk.out, hz]
         have HZ0 := hide hz
         clear hz
         go_wp2_with (first | (go_at_call 81; refine HFk.out.mono ?_; rintro r w2 ⟨rfl, hb4⟩; have hk2 := (hevq.below hb4 hevq.lt).kind) | (go_at_call 79; refine (HHk.out _).mono ?_; rintro r w3 ⟨rfl, rfl⟩))
         refine ⟨⟨k2 + 1, by omega, by go_num, ?_, hbq.trans (hb4.mono (by omega))⟩, by simp [intOf]; omega⟩
         rw [HQ.out, List.all_append, HB.out]; simp [HZ0.out]
        ·have hnz : (e.num k2 != 0) = true := by simp [HZk.out, hz]
         have HZ0 := hide hz
         clear hz
         go_wp2_with (first | (go_at_call 81; refine HFk.out.mono ?_; rintro r w2 ⟨rfl, hb4⟩; have hk2 := (hevq.below hb4 hevq.lt).kind) | (go_at_call 79; refine (HHk.out _).mono ?_; rintro r w3 ⟨rfl, rfl⟩))
         go_ret
         refine ⟨?_, hb3.trans (((hbr.trans hbq).trans (hb4.mono (by omega))).mono (by omega))⟩
         have : e.check = 62 := by
          have h62 : (List.range 7).all (fun i => decide (e.fld i = 0) || (usesL e.kind).contains i) = false := by
           rw [List.all_eq_false]; exact ⟨k2, by simp; omega, by simp [HZ0.out]; simpa using hcf⟩
          unfold Ev.check; rw [if_neg HK.out, if_neg HR.out, if_neg (by rw [HA.out]; simp), if_pos h62]
         rw [this]; rfl
      ·obtain rfl : k2 = 7 := by omega
       have HB := hide hall
       clear hall
       go_wp2
       go_ret
       refine ⟨?_, hb3.trans ((hbr.trans hbq).mono (by omega))⟩
       have : e.check = 0 := by
        unfold Ev.check; rw [if_neg HK.out, if_neg HR.out, if_neg (by rw [HA.out]; simp), if_neg (by rw [HB.out]; simp)]
       rw [this]; rfl
theorem Rd.qy5 (w : World) (x : Value) (e : TypeId) (b : Nat) (hb : w.heap.size = b) : Rd (w.alloc (.cells #[x] e)) (b + 1) 1 (some ⟨b, 0, none⟩) 1 [x] := by subst hb; exact Rd.one w x e
theorem qhc (k : Nat) : (List.range 7).filter (fun i => (usesL k).contains i) = usesL k := by
 obtain rfl | rfl | rfl | rfl | rfl | rfl | rfl | rfl | rfl | rfl | ⟨hu, _⟩ := qe6 k
 all_goals first | decide | (rw [hu]; decide)
def upTo (kd k : Nat) : List Nat := (List.range k).filter fun i => (usesL kd).contains i
theorem qf5 {kd k : Nat} (h : (usesL kd).contains k = true) : upTo kd (k + 1) = upTo kd k ++ [k] := by unfold upTo; rw [List.range_succ, List.filter_append]; simp only [List.filter_cons, h]; rfl
theorem qkj {kd k : Nat} (h : (usesL kd).contains k = false) : upTo kd (k + 1) = upTo kd k := by unfold upTo; rw [List.range_succ, List.filter_append]; simp only [List.filter_cons, h]; simp
theorem qok (kd : Nat) : upTo kd 7 = usesL kd := qhc kd
theorem qkk (kd k : Nat) (hk : k ≤ 7) : (upTo kd k).length ≤ 7 := by unfold upTo; exact Nat.le_trans (List.length_filter_le _ _) (by simp; exact hk)
def qyp (w : World) (kd : Nat) (v i : Value) (wr : World) : Prop :=
 ∃ (k n : Nat) (xs : List Value), k ≤ 7 ∧ i = .int .i64 (k : Int) ∧ n = (upTo kd k).length ∧ n ≤ 7 ∧ wr.ownsRow w.heap.size 9 1 v n xs ∧ Below w.heap.size w wr
structure FieldsPost (w : World) (n : Nat) (r : Ending) (w' : World) : Prop where
 ret : ∃ v xs, r = .returned v ∧ w'.ownsRow w.heap.size 9 1 v n xs
 below : Below w.heap.size w w'
set_option maxRecDepth 100000 in
set_option maxHeartbeats 2000000 in
theorem qhd (kd : Nat) (hkd : kd < 256) (w : World) :
  Calls Tryz.prog 95 #[.int .u8 (kd : Int)] w (FieldsPost w (usesL kd).length) := by
 have HH := hide (fun i (hi : i < 7) W => qf4 kd i hi hkd W)
 go_enter Tryz.func95, Tryz.ntmps95
 go_wp2
 go_loopw [3, 4] (qyp w kd) (fun _ i _ => 7 - (intOf i).toNat)
 case atStart => exact ⟨0, 0, [], by omega, rfl, rfl, by omega, World.ownsRow_nil _ _ _ _, Below.refl _ _⟩
 case round =>
  obtain ⟨k, n, xs, hk, rfl, hn, hn7, hown, hb⟩ := hrel
  have HN := hide hn
  clear hn
  by_cases hlt : k < 7
  ·have HHk := HH.out k hlt wr
   have hul := qkk kd (k + 1) (by omega)
   by_cases hc : (usesL kd).contains k = true
   ·rw [hc] at HHk
    have HHk := hide HHk
    have HY := hide (qf5 hc)
    clear hc
    rw [HY.out, List.length_append] at hul
    have hn6 : n + 1 ≤ 7 := by rw [HN.out]; simpa using hul
    obtain ⟨kk, HK⟩ : ∃ kk, Hid (kk = k) := ⟨k, hide rfl⟩
    obtain rfl | rfl | rfl | rfl | rfl | rfl | rfl : k = 0 ∨ k = 1 ∨ k = 2 ∨ k = 3 ∨ k = 4 ∨ k = 5 ∨ k = 6 := by omega
    all_goals
     go_wp2_with (first | (go_at_call 79; refine HHk.out.mono ?_; rintro r w2 ⟨rfl, rfl⟩) | (at_builtin; refine qb9 rfl rfl qv8 ((hown.alloc _).alloc _) rfl (Rd.qy5 (World.alloc w2 _) _ _ (w2.heap.size + 1) (by simp)) rfl (by simp [Value.oneCell']) (by omega) (by omega) (by simp; have := hb.size; omega) ?_; intro A2 c2 w2 hown1 hgr1 hbl1))
     refine ⟨⟨kk + 1, n + 1, _, ?_, ?_, ?_, hn6, hown1, ((hb.alloc hb.size _).alloc (by simp; have := hb.size; omega) _).grown hgr1 (by simp; have := hb.size; omega) (fun g hg => (hown.lt g hg).1)⟩, by simp [intOf]⟩
     ·rw [HK.out]; omega
     ·rw [HK.out]; rfl
     ·rw [HK.out, HY.out, List.length_append, ← HN.out]; rfl
   ·have hcf : (usesL kd).contains k = false := by simpa using hc
    rw [hcf] at HHk
    have HHk := hide HHk
    have HY := hide (qkj hcf)
    clear hc hcf
    have hlt' : (k : Int) < 7 := by omega
    go_wp2_with (go_at_call 79; refine HHk.out.mono ?_; rintro r w2 ⟨rfl, rfl⟩)
    exact ⟨⟨k + 1, n, xs, by omega, by go_num, by rw [HY.out]; exact HN.out, hn7, hown, hb⟩, by simp [intOf]; omega⟩
  ·obtain rfl : k = 7 := by omega
   go_wp2
   go_ret
   refine ⟨⟨_, xs, rfl, ?_⟩, hb⟩
   have := HN.out
   rw [qok] at this
   rw [← this]; exact hown
def qeh (e : Ev) (k : Nat) : List Nat := (upTo e.kind k).map fun i => (e.fld i).toNat
def qyq (e : Ev) (base : Nat) (w1 : World) (v i : Value) (wr : World) : Prop :=
 ∃ k n : Nat, k ≤ 7 ∧ i = .int .i64 (k : Int) ∧ n = (qeh e k).length ∧ n ≤ 7 ∧ wr.ownsRow base 22 1 v n ((qeh e k).map U64) ∧ Below base w1 wr
set_option maxRecDepth 100000 in
set_option maxHeartbeats 2000000 in
theorem qlx (e : Ev) (he : e.Ok) (w : World) :
  Calls Tryz.prog 62 #[.agg e.cells] w (ValsPost w e.check e.ze) := by
 have hev := EvAt.new w e 58
 have hb1 : Below w.heap.size w (w.alloc (.cells e.cells 58)) := (Below.refl _ _).alloc (Nat.le_refl _) _
 have HC := hide (qff e he (w.alloc (.cells e.cells 58)))
 have HF := hide (fun i (hi : i < 7) W => qfe e he i hi W)
 have HH := hide (fun i (hi : i < 7) W => qf4 e.kind i hi he.kind W)
 have hsz : (w.alloc (.cells e.cells 58)).heap.size = w.heap.size + 1 := by simp
 unfold Ev.cells at *
 by_cases hk : e.check = 0
 ·have hne : ((e.check : Int) != 0) = false := by rw [bne_eq_false_iff_eq]; omega
  have HK := hide (show e.ze = e.vals by unfold Ev.ze; rw [if_pos hk])
  have HN := hide (fun i (hi : i ∈ usesL e.kind) => qqz he hk hi)
  have HKK := hide hk
  clear hk
  go_enter Tryz.func62, Tryz.ntmps62
  go_wp2_with (go_at_call 61; refine HC.out.mono ?_; rintro r w1 ⟨rfl, hb2⟩)
  have hev1 := hev.below hb2 (by omega)
  have hb3 := hb1.trans (hb2.mono (by omega))
  have hs1 := hb2.size
  clear hev hb1
  go_loopw [5, 6] (qyq e (w.heap.size + 1) w1) (fun _ i _ => 7 - (intOf i).toNat)
  case atStart => exact ⟨0, 0, by omega, rfl, rfl, by omega, World.ownsRow_nil _ _ _ _, Below.refl _ _⟩
  case round =>
   obtain ⟨k, n, hk, rfl, hn, hn7, hown, hb⟩ := hrel
   have hevr := hev1.below hb (by omega)
   obtain ⟨m0, m1, m2, m3, m4, m5, m6, m7, m8, m9, m10⟩ := id hevr
   have hsr := hb.size
   have HL := hide hn
   clear hn
   by_cases hlt : k < 7
   ·have HHk := HH.out k hlt
    have HFk := HF.out k hlt
    have hul := qkk e.kind (k + 1) (by omega)
    have hlt' : (k : Int) < 7 := by omega
    by_cases hc : (usesL e.kind).contains k = true
    ·rw [hc] at HHk
     have hnum := HN.out k (by simpa using hc)
     have HHk := hide HHk
     have HY := hide (show qeh e (k + 1) = qeh e k ++ [(e.fld k).toNat] by unfold qeh; rw [qf5 hc, List.map_append]; rfl)
     have hl8 : n + 1 ≤ 7 := by
      rw [qf5 hc, List.length_append] at hul
      rw [HL.out]; unfold qeh; rw [List.length_map]; simpa using hul
     have HFk2 : ∀ W, Hid (Calls Tryz.prog 81 _ W fun r w' => r = .returned (.tuple #[.int .u64 (((e.fld k).toNat : Nat) : Int), .bool (decide (0 ≤ e.fld k))]) ∧ Below W.heap.size W w') :=
      fun W => hide ((HFk W).mono fun r w' h => ⟨by rw [← hnum]; exact h.ret, h.below⟩)
     clear hc hnum HFk
     generalize (e.fld k).toNat = y at HFk2 HY
     go_wp2_with (first | (go_at_call 79; refine (HHk.out _).mono ?_; rintro r w2 ⟨rfl, rfl⟩) | (go_at_call 81; refine (HFk2 _).out.mono ?_; rintro r w3 ⟨rfl, hb4⟩) | (at_builtin; refine qb9 rfl rfl qc5 ((((hb4 |> Chg.of_below).keep (Nat.zero_le _)).ownsRow hown (by simp)).alloc _) rfl (Rd.one w3 _ _) rfl (by simp [Value.oneCell']) (by omega) (by omega) (by simp; have := hb4.size; omega) ?_; intro A2 c2 w4 hown1 hgr1 hbl1))
     refine ⟨⟨k + 1, n + 1, by omega, by go_num, ?_, hl8, ?_, ((hb.trans (hb4.mono (by omega))).alloc (by have := hb4.size; omega) _).grown hgr1 (by simp; have := hb4.size; omega) (fun g hg => (hown.lt g hg).1)⟩, by simp [intOf]; omega⟩
     ·rw [HY.out, List.length_append, ← HL.out]; rfl
     ·rw [HY.out, List.map_append]; exact hown1
    ·have hcf : (usesL e.kind).contains k = false := by simpa using hc
     rw [hcf] at HHk
     have HHk := hide HHk
     have HY := hide (show qeh e (k + 1) = qeh e k by unfold qeh; rw [qkj hcf])
     clear hc hcf
     go_wp2_with (go_at_call 79; refine (HHk.out _).mono ?_; rintro r w2 ⟨rfl, rfl⟩)
     exact ⟨⟨k + 1, n, by omega, by go_num, by rw [HY.out]; exact HL.out, hn7, by rw [HY.out]; exact hown, hb⟩, by simp [intOf]; omega⟩
   ·have hge : (7 : Int) ≤ (k : Int) := by omega
    have h7 : k = 7 := by omega
    have HV := hide (show qeh e k = e.vals by unfold qeh Ev.vals; rw [h7, qok])
    clear h7
    go_wp2
    go_ret2
    have h1 := HKK.out
    have h2 := HL.out
    rw [HV.out] at hown h2
    rw [h2] at hown
    refine ⟨⟨_, by rw [h1]; rfl, ?_⟩, hb3.trans (hb.mono (by omega))⟩
    rw [HK.out]
    exact qfl hown (by omega)
 ·have hne : ((e.check : Int) != 0) = true := by rw [bne_iff_ne]; omega
  have HK := hide (show e.ze = [] by unfold Ev.ze; rw [if_neg hk])
  clear hk
  go_enter Tryz.func62, Tryz.ntmps62
  go_wp2_with (go_at_call 61; refine HC.out.mono ?_; rintro r w1 ⟨rfl, hbw⟩)
  go_ret2
  exact ⟨⟨_, rfl, by rw [HK.out]; exact World.ownsRow_nil _ _ _ _⟩, hb1.trans (hbw.mono (by omega))⟩
def Ev.rfill (e : Ev) (l : List (Nat × Nat)) : Ev := l.foldl (fun e p => e.rput p.1 p.2) e
def Ev.rmade (e : Ev) (vs : List Nat) : Ev := e.base.rfill ((usesL e.kind).zip vs)
theorem qs1 (o : Ev) (i x : Nat) (h5 : i ≠ 5) (hi : i < 7) : (o.rput i x).fld i = Ev.rval x := by unfold Ev.rput; exact qkx o i _ x h5 hi
theorem qp1 (o : Ev) (i j x : Nat) (hi : i < 7) (hj : j < 7) (h : j ≠ i) : (o.rput i x).fld j = o.fld j := by unfold Ev.rput; exact qiy o i j _ x hi hj h
theorem qif (j : Nat) (hj : j < 7) : ∀ (l : List (Nat × Nat)) (o : Ev), (∀ p ∈ l, p.1 < 7 ∧ p.1 ≠ j) → (o.rfill l).fld j = o.fld j
 | [], _, _ => rfl
 | p :: l, o, h => by
  have h1 := h p (by simp)
  have h2 := qif j hj l (o.rput p.1 p.2) (fun q hq => h q (by simp [hq]))
  exact h2.trans (qp1 o p.1 j p.2 h1.1 hj (fun e => h1.2 e.symm))
theorem qly (i x : Nat) (h5 : i ≠ 5) : ∀ (l : List (Nat × Nat)) (o : Ev), (∀ p ∈ l, p.1 < 7) → (l.map (·.1)).Nodup → (i, x) ∈ l → (o.rfill l).fld i = Ev.rval x
 | [], _, _, _, h => by simp at h
 | p :: l, o, h7, hd, h => by
  rw [List.map_cons, List.nodup_cons] at hd
  rcases List.mem_cons.1 h with rfl | h
  ·have hi : i < 7 := h7 (i, x) (by simp)
   have h2 := qif i hi l (o.rput i x) (fun q hq => ⟨h7 q (by simp [hq]), fun e => hd.1 (by rw [← e]; exact List.mem_map.2 ⟨q, hq, rfl⟩)⟩)
   exact h2.trans (qs1 o i x h5 hi)
  ·exact qly i x h5 l (o.rput p.1 p.2) (fun q hq => h7 q (by simp [hq])) hd.2 h
theorem qp2 (e : Ev) (vs : List Nat) : (e.rmade vs).kind = e.kind ∧ (e.rmade vs).seq = e.seq ∧ (e.rmade vs).time = e.time ∧ (e.rmade vs).cpu = e.cpu := by
 have : ∀ (l : List (Nat × Nat)) (o : Ev), (o.rfill l).kind = o.kind ∧ (o.rfill l).seq = o.seq ∧ (o.rfill l).time = o.time ∧ (o.rfill l).cpu = o.cpu := by
  intro l
  induction l with
  | nil => intro o; exact ⟨rfl, rfl, rfl, rfl⟩
  | cons p l ih =>
   intro o
   have h := ih (o.rput p.1 p.2)
   have h2 : (o.rput p.1 p.2).kind = o.kind ∧ (o.rput p.1 p.2).seq = o.seq ∧ (o.rput p.1 p.2).time = o.time ∧ (o.rput p.1 p.2).cpu = o.cpu := by unfold Ev.rput Ev.putV; split <;> exact ⟨rfl, rfl, rfl, rfl⟩
   rw [h2.1, h2.2.1, h2.2.2.1, h2.2.2.2] at h
   exact h
 exact this _ _
theorem qs2 (o : Ev) (v v' : Int) (m : Nat) : o.putV 5 v m = o.putV 5 v' m := rfl
theorem qlz {x : Nat} (h : x < 9223372036854775808) : wrap64 (x : Int) = (x : Int) := by rw [← IntWalk.i64_left, IntKind.wrap_i64]; omega
theorem qvp (o : Ev) (i x : Nat) (h : i = 5 ∨ x < 4611686018427387904) : o.rput i x = o.put i x := by
 unfold Ev.rput Ev.put
 rcases h with rfl | h
 ·exact qs2 _ _ _ _
 ·rw [qlz (by omega)]
  unfold Ev.rval
  rw [if_pos h]
theorem qs3 {α β : Type} (f g : β → α → β) (l : List α) : ∀ b, (∀ p ∈ l, ∀ b, f b p = g b p) → l.foldl f b = l.foldl g b := by
 induction l with
 | nil => intro b _; rfl
 | cons p l ih => intro b h; rw [List.foldl_cons, List.foldl_cons, h p List.mem_cons_self b]; exact ih _ (fun q hq => h q (List.mem_cons_of_mem _ hq))
def Small (p : Nat × Nat) : Prop := p.1 = 5 ∨ p.2 < 4611686018427387904
theorem qs4 (o : Ev) (p : Nat × Nat) (h : Small p) : o.rput p.1 p.2 = o.put p.1 p.2 := qvp o p.1 p.2 h
theorem qp3 (l : List (Nat × Nat)) (o : Ev) (h : ∀ p ∈ l, Small p) : o.rfill l = o.fill l :=
 qs3 _ _ l o (fun p hp b => qs4 b p (h p hp))
theorem ql0 {e : Ev} : ∀ {i : Nat}, i < 7 → i ≠ 5 → e.within i = true → e.fld i ≤ 4294967295
 | 0, _, _, h => by simp only [Ev.within, decide_eq_true_eq] at h; show e.task ≤ _; omega
 | 1, _, _, h => by simp only [Ev.within, decide_eq_true_eq] at h; show e.group ≤ _; omega
 | 2, _, _, h => by simp only [Ev.within, decide_eq_true_eq] at h; show e.to ≤ _; omega
 | 3, _, _, h => by simp only [Ev.within, decide_eq_true_eq] at h; show e.weight ≤ _; omega
 | 4, _, _, h => by simp only [Ev.within, decide_eq_true_eq] at h; show e.ticks ≤ _; omega
 | 5, _, h5, _ => absurd rfl h5
 | n + 6, _, _, h => by simp only [Ev.within, decide_eq_true_eq] at h; show e.got ≤ _; omega
theorem qp4 {x : Nat} (h1 : 4611686018427387904 ≤ x) (h2 : x < 18446744073709551616) : wrap64 (x : Int) < 0 ∨ 4611686018427387904 ≤ wrap64 (x : Int) := by rw [← IntWalk.i64_left, IntKind.wrap_i64]; omega
theorem qp5 (e : Ev) (vs : List Nat) (hn : vs.length = (usesL e.kind).length) (hv : ∀ x ∈ vs, x < 18446744073709551616) :
  e.rmade vs = e.made vs ∨ ((e.rmade vs).check ≠ 0 ∧ (e.made vs).check ≠ 0) := by
 by_cases h : ∀ p ∈ (usesL e.kind).zip vs, p.1 = 5 ∨ p.2 < 4611686018427387904
 ·exact .inl (qp3 _ _ h)
 ·right
  simp only [Classical.not_forall, not_or] at h
  obtain ⟨⟨i, x⟩, hm, h5, hx⟩ := h
  have hi := (List.of_mem_zip hm).1
  have h7 := qa0 _ _ hi
  have hx2 := hv x (List.of_mem_zip hm).2
  have hkeys : ∀ p ∈ (usesL e.kind).zip vs, p.1 < 7 := fun p hp => qa0 _ _ (List.of_mem_zip hp).1
  have hnd : (((usesL e.kind).zip vs).map (·.1)).Nodup := by rw [List.map_fst_zip (by omega)]; exact qdi _
  have hr : (e.rmade vs).fld i = Ev.rval x := qly i x h5 _ _ hkeys hnd hm
  have hf : (e.made vs).fld i = wrap64 (x : Int) := qfn i x h5 _ _ hkeys hnd hm
  constructor
  ·intro hc
   have hw := (qba hc).2.1
   rw [(qp2 e vs).1, List.all_eq_true] at hw
   have h0 := qal (hw i hi)
   rw [hr] at h0
   unfold Ev.rval at h0
   rw [if_neg hx] at h0
   omega
  ·intro hc
   have hw := (qba hc).2.1
   rw [(qc6 e vs).1, List.all_eq_true] at hw
   have h0 := qal (hw i hi)
   have h1 := ql0 h7 h5 (hw i hi)
   rw [hf] at h0 h1
   rcases qp4 (by omega) hx2 with h2 | h2 <;> omega
end Go.Proofs.YtnakabnmjnfpcaaGreatDoor
namespace Go.Proofs.YtnakabnmjnfpcaaGreatDoor
def crcR : Nat := 3988292384
def qad (c : Nat) : Nat := if c % 2 = 1 then (c / 2) ^^^ crcR else c / 2
def qbk : List Nat := [0, 498536548, 997073096, 651767980, 1994146192, 1802195444, 1303535960, 1342533948, 3988292384, 4027552580, 3604390888, 3412177804, 2607071920, 2262029012, 2685067896, 3183342108]
def nib (c : Nat) : Nat := (c / 16) ^^^ (qbk.getD (c % 16) 0)
def qdu (c x : Nat) : Nat := nib (nib (c ^^^ x))
def qu (c : Nat) (l : List Nat) : Nat := l.foldl qdu c
def qq (l : List Nat) : Nat := 4294967295 - qu 4294967295 l
def crcT (y : Nat) : Nat := qad (qad (qad (qad (qad (qad (qad (qad y)))))))
theorem qut (a b : Nat) : (a ^^^ b) / 2 = a / 2 ^^^ b / 2 := by
 have := Nat.shiftRight_xor_distrib (a := a) (b := b) (i := 1)
 simpa [Nat.shiftRight_eq_div_pow] using this
theorem quu (a b : Nat) : (a ^^^ b) % 2 = (a + b) % 2 := by
 have h : (a ^^^ b).testBit 0 = ((a.testBit 0) ^^ (b.testBit 0)) := Nat.testBit_xor ..
 rw [Nat.testBit_zero, Nat.testBit_zero, Nat.testBit_zero] at h
 rcases Nat.mod_two_eq_zero_or_one a with ha | ha <;> rcases Nat.mod_two_eq_zero_or_one b with hb | hb
 ·rw [ha, hb] at h
  have : ¬ (a ^^^ b) % 2 = 1 := of_decide_eq_false h
  omega
 ·rw [ha, hb] at h
  have : (a ^^^ b) % 2 = 1 := of_decide_eq_true h
  omega
 ·rw [ha, hb] at h
  have : (a ^^^ b) % 2 = 1 := of_decide_eq_true h
  omega
 ·rw [ha, hb] at h
  have : ¬ (a ^^^ b) % 2 = 1 := of_decide_eq_false h
  omega
theorem qh1 (a b : Nat) : qad (a ^^^ b) = qad a ^^^ qad b := by
 unfold qad
 have hm := quu a b
 rw [qut]
 rcases Nat.mod_two_eq_zero_or_one a with ha | ha <;> rcases Nat.mod_two_eq_zero_or_one b with hb | hb
 ·rw [if_neg (by omega), if_neg (by omega), if_neg (by omega)]
 ·rw [if_pos (by omega), if_neg (by omega), if_pos (by omega), Nat.xor_assoc]
 ·rw [if_pos (by omega), if_pos (by omega), if_neg (by omega), Nat.xor_assoc, Nat.xor_assoc, Nat.xor_comm crcR]
 ·rw [if_neg (by omega), if_pos (by omega), if_pos (by omega)]
  rw [Nat.xor_assoc, Nat.xor_comm crcR, Nat.xor_assoc, Nat.xor_self, Nat.xor_zero]
theorem qcc (h : Nat) : qad (2 * h) = h := by unfold qad; rw [if_neg (by omega)]; omega
theorem qlj (k c : Nat) : c = (2 ^ k * (c / 2 ^ k)) ^^^ (c % 2 ^ k) := by
 apply Nat.eq_of_testBit_eq
 intro i
 rw [Nat.testBit_xor, Nat.testBit_mod_two_pow, Nat.testBit_two_pow_mul, Nat.testBit_div_two_pow]
 by_cases h : i < k
 ·simp [h, Nat.not_le.2 h]
 ·simp [h, Nat.le_of_not_lt h]
theorem qwi (c : Nat) : nib c = qad (qad (qad (qad c))) := by
 have h := qlj 4 c
 conv => rhs; rw [h]
 simp only [qh1]
 rw [show 2 ^ 4 * (c / 2 ^ 4) = 2 * (2 * (2 * (2 * (c / 16)))) by omega, qcc, qcc, qcc, qcc]
 unfold nib
 congr 1
 have hl : c % 2 ^ 4 < 16 := Nat.mod_lt _ (by decide)
 show qbk.getD (c % 2 ^ 4) 0 = _
 generalize c % 2 ^ 4 = y at hl
 have : ∀ y, y < 16 → qbk.getD y 0 = qad (qad (qad (qad y))) := by decide
 exact this y hl
theorem qh2 (c x : Nat) : qdu c x = crcT (c ^^^ x) := by unfold qdu crcT; rw [qwi, qwi]
theorem quv (a b : Nat) : crcT (a ^^^ b) = crcT a ^^^ crcT b := by unfold crcT; simp only [qh1]
theorem qr2 (h : Nat) : crcT (256 * h) = h := by
 unfold crcT
 rw [show 256 * h = 2 * (2 * (2 * (2 * (2 * (2 * (2 * (2 * h))))))) by omega]
 simp only [qcc]
theorem qis (c x : Nat) : qdu c x = (c / 256) ^^^ crcT ((c % 256) ^^^ x) := by
 rw [qh2]
 have h := qlj 8 c
 conv => lhs; rw [h]
 rw [Nat.xor_assoc, quv, show 2 ^ 8 * (c / 2 ^ 8) = 256 * (c / 256) from rfl, qr2]
theorem qfy {a b : Nat} (ha : a < 4294967296) (hb : b < 4294967296) : a ^^^ b < 4294967296 := Nat.xor_lt_two_pow (n := 32) ha hb
theorem qbm {c : Nat} (h : c < 4294967296) : qad c < 4294967296 := by
 unfold qad
 split
 ·exact qfy (by omega) (by decide)
 ·omega
theorem qr3 {c : Nat} (h : c < 4294967296) : crcT c < 4294967296 := by
 unfold crcT
 exact qbm (qbm (qbm (qbm (qbm (qbm (qbm (qbm h)))))))
theorem qm1 {c x : Nat} (hc : c < 4294967296) (hx : x < 256) : qdu c x < 4294967296 := by
 rw [qh2]; exact qr3 (qfy hc (by omega))
theorem qee : ∀ (l : List Nat) {c : Nat}, c < 4294967296 → (∀ x ∈ l, x < 256) → qu c l < 4294967296
 | [], _, h, _ => h
 | x :: l, _, h, hl => qee l (qm1 h (hl x List.mem_cons_self)) (fun y hy => hl y (List.mem_cons_of_mem _ hy))
theorem quw {c : Nat} (h : c < 4294967296) : c ^^^ 4294967295 = 4294967295 - c := by
 apply Nat.eq_of_testBit_eq
 intro i
 rw [show 4294967295 - c = 2 ^ 32 - (c + 1) by omega, Nat.testBit_xor, Nat.testBit_two_pow_sub_succ (by omega), show (4294967295 : Nat) = 2 ^ 32 - 1 from rfl, Nat.testBit_two_pow_sub_one]
 by_cases hi : i < 32
 ·simp [hi]
 ·have : c.testBit i = false := Nat.testBit_lt_two_pow (Nat.lt_of_lt_of_le h (Nat.pow_le_pow_right (n := 2) (by decide) (by omega : 32 ≤ i)))
  simp [hi, this]
def trimL (l : List Nat) : List Nat := (l.reverse.dropWhile (· == 0)).reverse
theorem qfa (l : List Nat) : trimL (l ++ [0]) = trimL l := by simp [trimL]
theorem qi8 {l : List Nat} {x : Nat} (h : x ≠ 0) : trimL (l ++ [x]) = l ++ [x] := by simp [trimL, h]
def qlk (p : Nat) : List Nat := trimL ((List.range 64).map fun i => p / 2 ^ i % 2)
def sumAt (a b : List Nat) (s i : Nat) : Nat := if s ≤ i ∧ i - s < b.length then (a.getD i 0 + b.getD (i - s) 0) % 2 else a.getD i 0
def sumL (a b : List Nat) (s : Nat) : List Nat := trimL ((List.range (max a.length (b.length + s))).map (sumAt a b s))
def divR : Nat → List Nat → List Nat → List Nat
 | 0, a, _ => a
 | f + 1, a, b => if b.length ≤ a.length then divR f (sumL a b (a.length - b.length)) b else a
def bitsOf (y : Nat) : List Nat := trimL ((List.range 40).map fun i => if 32 ≤ i then y / 2 ^ (39 - i) % 2 else 0)
def genP : List Nat := qlk 4374732215
def qr4 (r : List Nat) : Nat := ((List.range r.length).map fun k => if r.getD k 0 = 1 then 2 ^ (31 - k) else 0).sum
def qbe (y : Nat) : Nat := qr4 (divR 41 (bitsOf y) genP)
theorem qux : ((List.range 16).all fun y => qbe (y + 0) == crcT (y + 0)) = true := by decide +kernel
theorem quy : ((List.range 16).all fun y => qbe (y + 16) == crcT (y + 16)) = true := by decide +kernel
theorem quz : ((List.range 16).all fun y => qbe (y + 32) == crcT (y + 32)) = true := by decide +kernel
theorem qu0 : ((List.range 16).all fun y => qbe (y + 48) == crcT (y + 48)) = true := by decide +kernel
theorem qu1 : ((List.range 16).all fun y => qbe (y + 64) == crcT (y + 64)) = true := by decide +kernel
theorem qu2 : ((List.range 16).all fun y => qbe (y + 80) == crcT (y + 80)) = true := by decide +kernel
theorem qu3 : ((List.range 16).all fun y => qbe (y + 96) == crcT (y + 96)) = true := by decide +kernel
theorem qu4 : ((List.range 16).all fun y => qbe (y + 112) == crcT (y + 112)) = true := by decide +kernel
theorem qu5 : ((List.range 16).all fun y => qbe (y + 128) == crcT (y + 128)) = true := by decide +kernel
theorem qu6 : ((List.range 16).all fun y => qbe (y + 144) == crcT (y + 144)) = true := by decide +kernel
theorem qr5 : ((List.range 16).all fun y => qbe (y + 160) == crcT (y + 160)) = true := by decide +kernel
theorem qr6 : ((List.range 16).all fun y => qbe (y + 176) == crcT (y + 176)) = true := by decide +kernel
theorem qr7 : ((List.range 16).all fun y => qbe (y + 192) == crcT (y + 192)) = true := by decide +kernel
theorem qr8 : ((List.range 16).all fun y => qbe (y + 208) == crcT (y + 208)) = true := by decide +kernel
theorem qr9 : ((List.range 16).all fun y => qbe (y + 224) == crcT (y + 224)) = true := by decide +kernel
theorem qsa : ((List.range 16).all fun y => qbe (y + 240) == crcT (y + 240)) = true := by decide +kernel
theorem qll (y : Nat) (hy : y < 256) : qbe y = crcT y := by
 have key : ∀ k, (((List.range 16).all fun y => qbe (y + k) == crcT (y + k)) = true) → k ≤ y → y < k + 16 → qbe y = crcT y := fun k h h1 h2 => by
  have := eq_of_beq (List.all_eq_true.1 h (y - k) (List.mem_range.2 (by omega)))
  rwa [Nat.sub_add_cancel h1] at this
 by_cases h0 : y < 16
 ·exact key 0 qux (by omega) (by omega)
 by_cases h1 : y < 32
 ·exact key 16 quy (by omega) (by omega)
 by_cases h2 : y < 48
 ·exact key 32 quz (by omega) (by omega)
 by_cases h3 : y < 64
 ·exact key 48 qu0 (by omega) (by omega)
 by_cases h4 : y < 80
 ·exact key 64 qu1 (by omega) (by omega)
 by_cases h5 : y < 96
 ·exact key 80 qu2 (by omega) (by omega)
 by_cases h6 : y < 112
 ·exact key 96 qu3 (by omega) (by omega)
 by_cases h7 : y < 128
 ·exact key 112 qu4 (by omega) (by omega)
 by_cases h8 : y < 144
 ·exact key 128 qu5 (by omega) (by omega)
 by_cases h9 : y < 160
 ·exact key 144 qu6 (by omega) (by omega)
 by_cases h10 : y < 176
 ·exact key 160 qr5 (by omega) (by omega)
 by_cases h11 : y < 192
 ·exact key 176 qr6 (by omega) (by omega)
 by_cases h12 : y < 208
 ·exact key 192 qr7 (by omega) (by omega)
 by_cases h13 : y < 224
 ·exact key 208 qr8 (by omega) (by omega)
 by_cases h14 : y < 240
 ·exact key 224 qr9 (by omega) (by omega)
 by_cases h15 : y < 256
 ·exact key 240 qsa (by omega) (by omega)
 omega
end Go.Proofs.YtnakabnmjnfpcaaGreatDoor
namespace Go.Proofs.YtnakabnmjnfpcaaGreatDoor
open Go.RowKit
theorem qoa : ∀ (l : List Nat) (i acc x m : Nat), (∀ b ∈ l, b < 256) → i ≤ 9 → vgo i acc l = (x, m, 0) →
  ∃ y, x = acc + y * 128 ^ i ∧ (grp (10 - i) y).map vbyte = l.take (m - i) ∧ i < m ∧ (0 < i → 0 < y)
 | [], i, acc, x, m, _, _, h => by simp [vgo] at h
 | b :: r, i, acc, x, m, hl, hi, h => by
  have hb := hl b (by simp)
  rw [vgo] at h
  split at h
  ·simp at h
  ·rename_i h9
   split at h
   ·simp at h
   ·rename_i h0
    split at h
    ·rename_i h128
     simp only [Prod.mk.injEq] at h
     obtain ⟨rfl, rfl, _⟩ := h
     refine ⟨b, rfl, ?_, by omega, fun _ => by omega⟩
     obtain ⟨f, hf⟩ : ∃ f, 10 - i = f + 1 := ⟨9 - i, by omega⟩
     rw [hf, qdj f b h128, show i + 1 - i = 1 by omega]
     rfl
    ·rename_i h128
     obtain ⟨y, h1, h2, h3, h4⟩ := qoa r (i + 1) _ x m (fun b hb => hl b (by simp [hb])) (by omega) h
     have hy := h4 (by omega)
     refine ⟨(b - 128) + 128 * y, ?_, ?_, by omega, fun _ => by omega⟩
     ·rw [h1, Nat.pow_succ, Nat.add_mul]
      have : y * (128 ^ i * 128) = 128 * y * 128 ^ i := by rw [Nat.mul_comm (128 ^ i) 128, ← Nat.mul_assoc, Nat.mul_comm y 128]
      omega
     ·obtain ⟨f, hf⟩ : ∃ f, 10 - i = f + 1 := ⟨9 - i, by omega⟩
      rw [hf, qb2 f _ (by omega), show ((b - 128) + 128 * y) % 128 = b - 128 by omega, show ((b - 128) + 128 * y) / 128 = y by omega]
      rw [show f = 10 - (i + 1) by omega, List.map_cons, h2]
      obtain ⟨k, hk⟩ : ∃ k, m - i = k + 1 := ⟨m - i - 1, by omega⟩
      rw [hk, List.take_succ_cons, show m - (i + 1) = k by omega]
      congr 1
      show b - 128 + 128 = b
      omega
theorem qgq {l : List Nat} {x m : Nat} (hl : ∀ b ∈ l, b < 256) (h : vread l = (x, m, 0)) : vbytes x = l.take m := by
 obtain ⟨y, h1, h2, h3, _⟩ := qoa l 0 0 x m hl (by omega) h
 have : x = y := by simpa using h1
 subst this
 simpa [vbytes] using h2
theorem qi6 : ∀ (j : Nat) (l xs : List Nat) (u : Nat), (∀ b ∈ l, b < 256) → readN j l = (xs, u, 0) → xs.flatMap vbytes = l.take u ∧ xs.length = j ∧ (∀ x ∈ xs, x < 18446744073709551616) ∧ u ≤ l.length
 | 0, l, xs, u, _, h => by
  simp only [readN, Prod.mk.injEq] at h
  obtain ⟨rfl, rfl, _⟩ := h
  simp
 | j + 1, l, xs, u, hl, h => by
  have hvl := qbc l
  have hvb := qdk l hl
  rw [readN] at h
  split at h
  ·rename_i h1; simp at h; exact absurd h.2.2 h1
  ·rename_i h1
   split at h
   ·rename_i h2; simp at h; exact absurd h.2.2 h2
   ·rename_i h2
    have hv : vread l = ((vread l).1, (vread l).2.1, 0) := by rw [← show (vread l).2.2 = 0 by omega]
    generalize (vread l).1 = x at hv h hvb
    generalize (vread l).2.1 = m at hv h hvl
    have hq : readN j (l.drop m) = ((readN j (l.drop m)).1, (readN j (l.drop m)).2.1, 0) := by
     rw [hv] at h2
     rw [← show (readN j (l.drop m)).2.2 = 0 by simpa using h2]
    generalize (readN j (l.drop m)).1 = ys at hq h
    generalize (readN j (l.drop m)).2.1 = n at hq h
    simp only [Prod.mk.injEq] at h
    obtain ⟨rfl, rfl, _⟩ := h
    obtain ⟨g1, g2, g3, g4⟩ := qi6 j (l.drop m) ys n (fun b hb => hl b (List.mem_of_mem_drop hb)) hq
    rw [List.length_drop] at g4
    refine ⟨?_, by simp [g2], ?_, by omega⟩
    ·rw [List.flatMap_cons, g1, qgq hl hv, List.take_add]
    ·intro z hz
     rcases List.mem_cons.1 hz with rfl | hz
     ·exact hvb
     ·exact g3 z hz
theorem qdt {e : Ev} : ∀ {i : Nat}, i < 7 → i ≠ 5 → e.within i = true → e.fld i ≤ 4294967295
 | 0, _, _, h => by simp only [Ev.within, decide_eq_true_eq] at h; show e.task ≤ _; omega
 | 1, _, _, h => by simp only [Ev.within, decide_eq_true_eq] at h; show e.group ≤ _; omega
 | 2, _, _, h => by simp only [Ev.within, decide_eq_true_eq] at h; show e.to ≤ _; omega
 | 3, _, _, h => by simp only [Ev.within, decide_eq_true_eq] at h; show e.weight ≤ _; omega
 | 4, _, _, h => by simp only [Ev.within, decide_eq_true_eq] at h; show e.ticks ≤ _; omega
 | 5, _, h5, _ => absurd rfl h5
 | n + 6, _, _, h => by simp only [Ev.within, decide_eq_true_eq] at h; show e.got ≤ _; omega
theorem qru {x : Nat} (h2 : x < 18446744073709551616) (h0 : 0 ≤ wrap64 (x : Int)) (h1 : wrap64 (x : Int) ≤ 4294967295) : (wrap64 (x : Int)).toNat = x := by
 rw [← IntWalk.i64_left, IntKind.wrap_i64] at *; omega
theorem qun (o : Ev) (i x : Nat) (hi : i < 7) : (o.put i x).mask = if i = 5 then x else o.mask := by
 obtain rfl | rfl | rfl | rfl | rfl | rfl | rfl : i = 0 ∨ i = 1 ∨ i = 2 ∨ i = 3 ∨ i = 4 ∨ i = 5 ∨ i = 6 := by omega
 all_goals rfl
theorem qhy (x : Nat) : ∀ (l : List (Nat × Nat)) (o : Ev), (∀ p ∈ l, p.1 < 7) → (l.map (·.1)).Nodup → (5, x) ∈ l → (o.fill l).mask = x
 | [], _, _, _, h => by simp at h
 | p :: l, o, h7, hd, h => by
  rw [List.map_cons, List.nodup_cons] at hd
  rcases List.mem_cons.1 h with rfl | h
  ·have h2 := qem 5 (by omega) l (o.put 5 x) (fun q hq => ⟨h7 q (by simp [hq]), fun e => hd.1 (by rw [← e]; exact List.mem_map.2 ⟨q, hq, rfl⟩)⟩)
   have h3 : ((o.fill ((5, x) :: l)).mask : Int) = ((o.put 5 x).mask : Int) := h2
   rw [qun o 5 x (by omega), if_pos rfl] at h3
   omega
  ·exact qhy x l (o.put p.1 p.2) (fun q hq => h7 q (by simp [hq])) hd.2 h
theorem qrv {e : Ev} {vs : List Nat} (hn : vs.length = (usesL e.kind).length) (hv : ∀ x ∈ vs, x < 18446744073709551616) (hc : (e.made vs).check = 0) : (e.made vs).vals = vs := by
 have hk := (qc6 e vs).1
 have hw := (qba hc).2.1
 rw [hk, List.all_eq_true] at hw
 have hkeys : ∀ p ∈ (usesL e.kind).zip vs, p.1 < 7 := fun p hp => qa0 _ _ (List.of_mem_zip hp).1
 have hnd : (((usesL e.kind).zip vs).map (·.1)).Nodup := by rw [List.map_fst_zip (by omega)]; exact qdi _
 have hall : ∀ p ∈ (usesL e.kind).zip vs, ((e.made vs).fld p.1).toNat = p.2 := by
  rintro ⟨i, x⟩ hm
  have hi := (List.of_mem_zip hm).1
  by_cases h5 : i = 5
  ·subst h5
   have := qhy x _ e.base hkeys hnd hm
   show ((e.made vs).mask : Int).toNat = x
   unfold Ev.made; rw [this]; simp
  ·have h1 : (e.made vs).fld i = wrap64 (x : Int) := qfn i x h5 _ _ hkeys hnd hm
   have h0 := qal (hw i hi)
   have h2 := qdt (qa0 _ _ hi) h5 (hw i hi)
   rw [h1] at h0 h2
   show ((e.made vs).fld i).toNat = x
   rw [h1]
   exact qru (hv x (List.of_mem_zip hm).2) h0 h2
 unfold Ev.vals
 rw [hk]
 have h1 : (usesL e.kind).map (fun i => ((e.made vs).fld i).toNat) = ((usesL e.kind).zip vs).map (fun p => ((e.made vs).fld p.1).toNat) := by
  conv => lhs; rw [← List.map_fst_zip (l₁ := usesL e.kind) (l₂ := vs) (by omega), List.map_map]
  rfl
 rw [h1, List.map_congr_left hall, List.map_snd_zip (by omega)]
structure TakeGood (b : Bs) (cpu : Nat) (l : List Nat) (e : Ev) (u : Nat) : Prop where
 right : b.right = true
 bytes : zk b e = l.take u
 check : e.check = 0
 cpu : e.cpu = cpu
 behind : b.behind e = true
 ok : e.Ok
 len : u ≤ l.length
theorem qpi {b : Bs} {cpu : Nat} (hcpu : cpu < 256) {l : List Nat} {e : Ev} {u : Nat} (hl : ∀ b ∈ l, b < 256) (h : takeR b cpu l = (e, u, 0)) : TakeGood b cpu l e u := by
 unfold takeR at h
 split at h
 ·simp at h
 ·rename_i hr
  split at h
  ·simp at h
  ·rename_i hne
   split at h
   ·simp at h
   ·obtain ⟨kd, r, rfl⟩ : ∃ kd r, l = kd :: r := by
     cases l with
     | nil => exact absurd rfl hne
     | cons a b => exact ⟨a, b, rfl⟩
    rw [List.getD_cons_zero, List.drop_succ_cons, List.drop_zero] at h
    have hrr : b.right = true := by simpa using hr
    have hkd := hl kd (by simp)
    unfold qaw at h
    split at h
    ·rename_i h1; simp at h; exact absurd h.2.2 h1
    ·rename_i h1
     have hq : readN (2 + (usesL kd).length) r = ((readN (2 + (usesL kd).length) r).1, (readN (2 + (usesL kd).length) r).2.1, 0) := by rw [← show (readN (2 + (usesL kd).length) r).2.2 = 0 by omega]
     obtain ⟨xs, hxs⟩ : ∃ xs, (readN (2 + (usesL kd).length) r).1 = xs := ⟨_, rfl⟩
     obtain ⟨n, hn⟩ : ∃ n, (readN (2 + (usesL kd).length) r).2.1 = n := ⟨_, rfl⟩
     rw [hxs, hn] at hq h
     obtain ⟨g1, g2, g3, g4⟩ := qi6 _ r xs n (fun b hb => hl b (by simp [hb])) hq
     obtain ⟨x0, x1, vs, rfl⟩ : ∃ x0 x1 vs, xs = x0 :: x1 :: vs := by
      match xs, g2 with
      | x0 :: x1 :: vs, _ => exact ⟨x0, x1, vs, rfl⟩
      | [_], h => simp at h; omega
      | [], h => simp at h; omega
     simp only [List.getD_cons_zero, List.getD_cons_succ, List.drop_succ_cons, List.drop_zero] at h
     split at h
     ·simp at h
     ·rename_i h2
      split at h
      ·simp at h
      ·rename_i h3
       simp only [Prod.mk.injEq] at h
       obtain ⟨rfl, rfl, _⟩ := h
       have hvl : vs.length = (usesL kd).length := by simp at g2; omega
       have hE : (b.ev cpu kd x0 x1).qy vs = 0 := by omega
       have hck : ((b.ev cpu kd x0 x1).made vs).check = 0 := by
        unfold Ev.qy at hE
        split at hE
        ·cases hE
        ·split at hE
         ·cases hE
         ·split at hE
          ·cases hE
          ·rename_i h; simpa using h
       have hmk := qc6 (b.ev cpu kd x0 x1) vs
       have hvals := qrv (e := b.ev cpu kd x0 x1) (vs := vs) hvl (fun x hx => g3 x (by simp [hx])) hck
       have hqr := hrr
       unfold Bs.right at hqr
       simp only [decide_eq_true_eq] at hqr
       have hEok : (b.ev cpu kd x0 x1).Ok := ⟨⟨by show _ ≤ b.seq + (x0 : Int); omega, by show b.seq + (x0 : Int) ≤ _; omega⟩, ⟨by show _ ≤ b.time + (x1 : Int); omega, by show b.time + (x1 : Int) ≤ _; omega⟩, hcpu, hkd, qag, qag, qag, qag, qag, by show 0 < 18446744073709551616; omega, qag⟩
       refine ⟨hrr, ?_, hck, hmk.2.2.2, ?_, qhq (qjx hEok) _ (fun p hp => g3 p.2 (by have := (List.of_mem_zip hp).2; simp [this])), by simp; omega⟩
       ·unfold zk qaf
        rw [hmk.1, hmk.2.1, hmk.2.2.1, hvals]
        rw [show ((b.ev cpu kd x0 x1).seq - b.seq).toNat = x0 by show (b.seq + (x0 : Int) - b.seq).toNat = x0; omega, show ((b.ev cpu kd x0 x1).time - b.time).toNat = x1 by show (b.time + (x1 : Int) - b.time).toNat = x1; omega]
        rw [g1, Nat.add_comm 1 n, List.take_succ_cons]
        rfl
       ·unfold Bs.behind
        rw [hmk.2.1, hmk.2.2.1]
        simp only [decide_eq_true_eq]
        show b.seq ≤ b.seq + (x0 : Int) ∧ b.time ≤ b.time + (x1 : Int)
        omega
theorem qrw (p : Option Ev) (i : Nat) : rowGo p i [] = (-1, 0) := rfl
theorem qhz {cpu : Nat} (hcpu : cpu < 256) : ∀ (n : Nat) (b : Bs) (p : Option Ev) (l : List Nat) (es : List Ev) (u : Nat), (∀ x ∈ l, x < 256) → (∀ q, p = some q → b = q.at ∧ q.cpu = cpu) → zc cpu n b p l = (es, u, 0) →
  es.length = n ∧ recs b es = l.take u ∧ u ≤ l.length ∧ (∀ i, (rowGo p i es).2 = 0) ∧ (∀ e ∈ es, e.Ok ∧ e.cpu = cpu) ∧ es.head?.all b.behind = true
 | 0, b, p, l, es, u, _, _, h => by
  simp only [zc, Prod.mk.injEq] at h
  obtain ⟨rfl, rfl, _⟩ := h
  simp [recs, qrw]
 | n + 1, b, p, l, es, u, hl, hp, h => by
  rw [zc] at h
  split at h
  ·rename_i h1; simp at h; exact absurd h.2.2 h1
  ·rename_i h1
   have hq : takeR b cpu l = ((takeR b cpu l).1, (takeR b cpu l).2.1, 0) := by rw [← show (takeR b cpu l).2.2 = 0 by omega]
   generalize (takeR b cpu l).1 = e at hq h
   generalize (takeR b cpu l).2.1 = m at hq h
   split at h
   ·simp at h
   ·rename_i h2
    split at h
    ·rename_i h3; simp at h; exact absurd h.2.2 h3
    ·rename_i h3
     have hg := qpi hcpu hl hq
     have hr : zc cpu n e.at (some e) (l.drop m) = ((zc cpu n e.at (some e) (l.drop m)).1, (zc cpu n e.at (some e) (l.drop m)).2.1, 0) := by rw [← show (zc cpu n e.at (some e) (l.drop m)).2.2 = 0 by omega]
     generalize (zc cpu n e.at (some e) (l.drop m)).1 = fs at hr h
     generalize (zc cpu n e.at (some e) (l.drop m)).2.1 = v at hr h
     simp only [Prod.mk.injEq] at h
     obtain ⟨rfl, rfl, _⟩ := h
     obtain ⟨g1, g2, g3, g4, g5, g6⟩ := qhz hcpu n e.at (some e) (l.drop m) fs v (fun x hx => hl x (List.mem_of_mem_drop hx)) (fun q hq => by injection hq with hq; subst hq; exact ⟨rfl, hg.cpu⟩) hr
     rw [List.length_drop] at g3
     refine ⟨by simp [g1], ?_, by have := hg.len; omega, fun i => ?_, ?_, by simpa using hg.behind⟩
     ·rw [recs, g2, hg.bytes, List.take_add]
     ·rw [rowGo, if_neg (by simp [hg.check]), if_neg]
      ·exact g4 (i + 1)
      ·cases p with
       | none => simp
       | some q =>
        obtain ⟨rfl, hc⟩ := hp q rfl
        have hb := hg.behind
        unfold Bs.behind Ev.at at hb
        simp only [decide_eq_true_eq] at hb
        simp at h2
        have haf : e.after q = true := by
         unfold Ev.after
         rw [decide_eq_true_eq]
         exact ⟨by rw [hg.cpu, hc], by omega, hb.2⟩
        simp [haf]
     ·intro x hx
      rcases List.mem_cons.1 hx with rfl | hx
      ·exact ⟨hg.ok, hg.cpu⟩
      ·exact g5 x hx
theorem qeq {b : Bs} {cpu : Nat} (hcpu : cpu < 256) {m : Int} {l : List Nat} {es : List Ev} {u : Nat} (hl : ∀ x ∈ l, x < 256) (h : readR b cpu m l = (es, u, 0)) :
  (es.length : Int) = m ∧ zg b es = 0 ∧ zr b es = l.take u ∧ u ≤ l.length ∧ (∀ e ∈ es, e.Ok ∧ e.cpu = cpu) := by
 unfold readR at h
 split at h
 ·simp at h
 ·split at h
  ·simp at h
  ·rename_i h1 h2
   obtain ⟨g1, g2, g3, g4, g5, g6⟩ := qhz hcpu m.toNat b none l es u hl (fun q hq => by cases hq) h
   have he : zg b es = 0 := by
    unfold zg rowR
    rw [if_neg (by simp [g4 0]), if_pos ⟨by simpa using h2, g6⟩]
   refine ⟨by omega, he, ?_, g3, g5⟩
   unfold zr
   rw [if_pos he, g2]
theorem qrx {b : Bs} {cpu : Nat} {m : Int} {l : List Nat} (h : (readR b cpu m l).2.2 ≠ 0) : (readR b cpu m l).1 = [] ∧ (readR b cpu m l).2.1 = 0 := by
 have hb : ∀ (j : Nat) (b : Bs) (p : Option Ev) (l : List Nat), (zc cpu j b p l).2.2 ≠ 0 → (zc cpu j b p l).1 = [] ∧ (zc cpu j b p l).2.1 = 0 := by
  intro j b p l h
  cases j with
  | zero => exact absurd rfl h
  | succ j =>
   rw [zc] at h ⊢
   split
   ·exact ⟨rfl, rfl⟩
   ·split
    ·exact ⟨rfl, rfl⟩
    ·split
     ·exact ⟨rfl, rfl⟩
     ·rename_i h1 h2 h3
      rw [if_neg h1, if_neg h2, if_neg h3] at h
      exact absurd rfl h
 unfold readR at h ⊢
 split
 ·exact ⟨rfl, rfl⟩
 ·split
  ·exact ⟨rfl, rfl⟩
  ·rename_i h1 h2
   rw [if_neg h1, if_neg h2] at h
   exact hb _ _ _ _ h
theorem qup (i : Nat) (h : i ≤ 8) : 2 ^ (64 - 7 * i) = 128 * 2 ^ (64 - 7 * (i + 1)) := by
 rw [show 64 - 7 * i = 7 + (64 - 7 * (i + 1)) by omega, Nat.pow_add]
theorem quq (acc y i : Nat) : acc + (y % 128 + 128 - 128) * 128 ^ i + y / 128 * 128 ^ (i + 1) = acc + y * 128 ^ i := by
 rw [Nat.pow_succ, Nat.add_sub_cancel, Nat.add_assoc, Nat.mul_comm (128 ^ i) 128, ← Nat.mul_assoc, ← Nat.add_mul]
 congr 2
 omega
theorem qry : ∀ (f y i acc : Nat) (rest : List Nat), i + f = 10 → 1 ≤ f → y < 2 ^ (64 - 7 * i) → (0 < i → 0 < y) →
  vgo i acc ((grp f y).map vbyte ++ rest) = (acc + y * 128 ^ i, i + (grp f y).length, 0)
 | 0, _, _, _, _, _, h, _, _ => by omega
 | f + 1, y, i, acc, rest, hi, _, hy, h0 => by
  have h9 : i = 9 → y < 2 := fun e => by subst e; simpa using hy
  by_cases h : y < 128
  ·rw [qdj f y h]
   show vgo i acc (y :: rest) = _
   rw [vgo, if_neg (by omega), if_neg (by omega), if_pos h]
   rfl
  ·rw [qb2 f y (by omega)]
   show vgo i acc ((y % 128 + 128) :: ((grp f (y / 128)).map vbyte ++ rest)) = _
   have hi8 : i ≤ 8 := by
    rcases Nat.lt_or_ge i 9 with h | h
    ·omega
    ·have := h9 (by omega); omega
   have hy' : y / 128 < 2 ^ (64 - 7 * (i + 1)) := by
    rw [qup i hi8] at hy
    exact Nat.div_lt_of_lt_mul hy
   rw [vgo, if_neg (by omega), if_neg (by omega), if_neg (by omega), qry f (y / 128) (i + 1) _ rest (by omega) (by omega) hy' (fun _ => by omega), quq]
   simp only [List.length_cons, Prod.mk.injEq, and_true, true_and]
   omega
theorem qh0 {y : Nat} (rest : List Nat) (hy : y < 18446744073709551616) : vread (vbytes y ++ rest) = (y, (vbytes y).length, 0) := by
 have := qry 10 y 0 0 rest rfl (by omega) (by simpa using hy) (fun h => by omega)
 unfold vread vbytes
 rw [this]
 simp
theorem qlf : ∀ (xs rest : List Nat), (∀ x ∈ xs, x < 18446744073709551616) → readN xs.length (xs.flatMap vbytes ++ rest) = (xs, (xs.flatMap vbytes).length, 0)
 | [], _, _ => rfl
 | x :: xs, rest, h => by
  rw [List.length_cons, readN, List.flatMap_cons, List.append_assoc, qh0 _ (h x (by simp))]
  simp only [List.drop_left, ne_eq, not_true_eq_false, if_false]
  rw [qlf xs rest (fun z hz => h z (by simp [hz]))]
  simp
theorem qyh {a b : Ev} (h1 : a.seq = b.seq) (h2 : a.time = b.time) (h3 : a.cpu = b.cpu) (h4 : a.kind = b.kind) (h5 : ∀ i, i < 7 → a.fld i = b.fld i) : a = b := by
 have f0 : a.task = b.task := h5 0 (by omega)
 have f1 : a.group = b.group := h5 1 (by omega)
 have f2 : a.to = b.to := h5 2 (by omega)
 have f3 : a.weight = b.weight := h5 3 (by omega)
 have f4 : a.ticks = b.ticks := h5 4 (by omega)
 have f5 : (a.mask : Int) = (b.mask : Int) := h5 5 (by omega)
 have f6 : a.got = b.got := h5 6 (by omega)
 cases a
 cases b
 simp only at *
 simp_all
 omega
theorem wrap_small {x : Int} (h0 : 0 ≤ x) (h1 : x ≤ 4294967295) : wrap64 ((x.toNat : Nat) : Int) = x := by
 rw [← IntWalk.i64_left, IntKind.wrap_i64]; omega
theorem qur (e : Ev) : ∀ i, i < 7 → e.base.fld i = 0 := by
 intro i hi
 obtain rfl | rfl | rfl | rfl | rfl | rfl | rfl : i = 0 ∨ i = 1 ∨ i = 2 ∨ i = 3 ∨ i = 4 ∨ i = 5 ∨ i = 6 := by omega
 all_goals rfl
theorem qm0 {e : Ev} (h : e.check = 0) (i : Nat) (hi : i < 7) (hn : i ∉ usesL e.kind) : e.fld i = 0 := by
 unfold Ev.check at h
 split at h
 ·cases h
 ·split at h
  ·cases h
  ·split at h
   ·cases h
   ·split at h
    ·cases h
    ·rename_i h4
     have h4' : (List.range 7).all (fun i => decide (e.fld i = 0) || (usesL e.kind).contains i) = true := by rwa [Bool.not_eq_false] at h4
     have := List.all_eq_true.1 h4' i (List.mem_range.2 hi)
     simpa [hn] using this
theorem qrz {e b : Ev} (hc : e.check = 0) (h1 : b.seq = e.seq) (h2 : b.time = e.time) (h3 : b.cpu = e.cpu) (h4 : b.kind = e.kind) : b.made e.vals = e := by
 have hmk := qc6 b e.vals
 have hw := (qba hc).2.1
 rw [List.all_eq_true] at hw
 have hlen : e.vals.length = (usesL e.kind).length := by unfold Ev.vals; rw [List.length_map]
 have hkeys : ∀ p ∈ (usesL e.kind).zip e.vals, p.1 < 7 := fun p hp => qa0 _ _ (List.of_mem_zip hp).1
 have hnd : (((usesL e.kind).zip e.vals).map (·.1)).Nodup := by rw [List.map_fst_zip (by omega)]; exact qdi _
 have hmem : ∀ i ∈ usesL e.kind, (i, (e.fld i).toNat) ∈ (usesL e.kind).zip e.vals := by
  intro i hi
  unfold Ev.vals
  have hz : ∀ l : List Nat, i ∈ l → (i, (e.fld i).toNat) ∈ l.zip (l.map fun i => (e.fld i).toNat) := by
   intro l
   induction l with
   | nil => intro h; cases h
   | cons a l ih =>
    intro h
    rcases List.mem_cons.1 h with rfl | h
    ·simp
    ·simp only [List.map_cons, List.zip_cons_cons, List.mem_cons]
     exact Or.inr (ih h)
  exact hz _ hi
 refine qyh (hmk.2.1.trans h1) (hmk.2.2.1.trans h2) (hmk.2.2.2.trans h3) (hmk.1.trans h4) fun i hi => ?_
 unfold Ev.made
 rw [h4]
 by_cases hu : i ∈ usesL e.kind
 ·by_cases h5 : i = 5
  ·subst h5
   have := qhy _ _ b.base hkeys hnd (hmem 5 hu)
   show (((b.base.fill ((usesL e.kind).zip e.vals)).mask : Nat) : Int) = (e.mask : Int)
   rw [this]
   show (((e.mask : Int).toNat : Nat) : Int) = _
   simp
  ·rw [qfn i _ h5 _ _ hkeys hnd (hmem i hu)]
   exact wrap_small (qal (hw i hu)) (qdt hi h5 (hw i hu))
 ·rw [qem i hi _ _ (fun p hp => ⟨hkeys p hp, fun h => hu (h ▸ (List.of_mem_zip hp).1)⟩), qur b i hi, qm0 hc i hi hu]
theorem qr0 {e : Ev} (hc : e.check = 0) (ho : e.Ok) : ∀ x ∈ e.vals, x < 18446744073709551616 := by
 intro x hx
 obtain ⟨i, hi, rfl⟩ := List.mem_map.1 hx
 have hw := (qba hc).2.1
 rw [List.all_eq_true] at hw
 by_cases h5 : i = 5
 ·subst h5
  have := ho.mask
  show ((e.mask : Int)).toNat < _
  simpa using this
 ·have := qdt (qa0 _ _ hi) h5 (hw i hi)
  have h0 := qal (hw i hi)
  show (e.fld i).toNat < _
  omega
theorem qus {e : Ev} (hc : e.check = 0) : (usesL e.kind).length ≠ 0 := by
 have := (qba hc).1
 rcases qe6 e.kind with h | h | h | h | h | h | h | h | h | h | h
 any_goals (rw [h]; decide)
 exact absurd h.2 (by rw [this]; exact id)
structure Fit (b : Bs) (e : Ev) : Prop where
 right : b.right = true
 check : e.check = 0
 ok : e.Ok
 behind : b.behind e = true
theorem Fit.nums {b : Bs} {e : Ev} (h : Fit b e) : (∀ x ∈ qaf b e, x < 18446744073709551616) ∧ (qaf b e).length = 2 + (usesL e.kind).length ∧ b.seq + (((e.seq - b.seq).toNat : Nat) : Int) = e.seq ∧ b.time + (((e.time - b.time).toNat : Nat) : Int) = e.time ∧
  1 ≤ b.seq ∧ 0 ≤ b.time ∧ e.seq ≤ 281474976710656 ∧ e.time ≤ 281474976710656 := by
 have h1 := h.right
 have h2 := h.behind
 unfold Bs.right at h1
 unfold Bs.behind at h2
 simp only [decide_eq_true_eq] at h1 h2
 obtain ⟨_, _, _, g1, g2, g3, g4⟩ := qba h.check
 refine ⟨fun x hx => ?_, ?_, by omega, by omega, by omega, by omega, by omega, by omega⟩
 ·unfold qaf at hx
  rcases List.mem_cons.1 hx with rfl | hx
  ·omega
  ·rcases List.mem_cons.1 hx with rfl | hx
   ·omega
   ·exact qr0 h.check h.ok x hx
 ·unfold qaf Ev.vals
  simp only [List.length_cons, List.length_map]
  omega
theorem qr1 {b : Bs} {e : Ev} (h : Fit b e) (rest : List Nat) : takeR b e.cpu (zk b e ++ rest) = (e, (zk b e).length, 0) := by
 obtain ⟨n1, n2, n3, n4, n5, n6, n7, n8⟩ := h.nums
 unfold takeR zk
 rw [if_neg (by simp [h.right]), if_neg (by simp)]
 simp only [List.cons_append, List.getD_cons_zero, List.drop_succ_cons, List.drop_zero]
 rw [if_neg (qus h.check), ← n2, qlf _ rest n1]
 unfold qaw
 have hm : (b.ev e.cpu e.kind (e.seq - b.seq).toNat (e.time - b.time).toNat).made e.vals = e :=
  qrz h.check n3 n4 rfl rfl
 have hv : e.vals.length = (usesL e.kind).length := by unfold Ev.vals; rw [List.length_map]
 have hE : (b.ev e.cpu e.kind (e.seq - b.seq).toNat (e.time - b.time).toNat).qy e.vals = 0 := by
  unfold Ev.qy
  rw [if_neg (by show ¬ (e.kind = 0 ∨ 10 < e.kind); rw [(qba h.check).1]; exact id), if_neg (by rw [hv]; show ¬ (usesL e.kind).length ≠ (usesL e.kind).length; omega), hm, if_neg (by rw [h.check]; omega)]
 simp only [qaf, List.getD_cons_zero, List.getD_cons_succ, List.drop_succ_cons, List.drop_zero, ne_eq, not_true_eq_false, if_false]
 rw [if_neg (by omega), hE, if_neg (by omega), hm]
 simp only [List.length_cons, Prod.mk.injEq, true_and, and_true]
 omega
def Chain (cpu : Nat) : Option Ev → Bs → List Ev → Prop
 | _, _, [] => True
 | p, b, e :: r => Fit b e ∧ e.cpu = cpu ∧ (∀ q, p = some q → q.seq < e.seq) ∧ Chain cpu (some e) e.at r
theorem qkc {e : Ev} (hc : e.check = 0) : e.at.right = true := by
 obtain ⟨_, _, _, g1, g2, g3, g4⟩ := qba hc
 unfold Bs.right Ev.at
 rw [decide_eq_true_eq]
 exact ⟨g1, g2, g3, g4⟩
theorem qi7 {cpu : Nat} : ∀ (es : List Ev) (p : Option Ev) (b : Bs) (rest : List Nat), Chain cpu p b es → zc cpu es.length b p (recs b es ++ rest) = (es, (recs b es).length, 0)
 | [], _, _, _, _ => rfl
 | e :: r, p, b, rest, h => by
  obtain ⟨h1, h2, h3, h4⟩ := h
  subst h2
  have hp : p.any (fun q => decide (e.seq = q.seq)) = false := by
   cases p with
   | none => rfl
   | some q => have := h3 q rfl; simp; omega
  rw [List.length_cons, zc, recs, List.append_assoc, qr1 h1]
  simp only [List.drop_left, ne_eq, not_true_eq_false, if_false, hp, Bool.false_eq_true]
  rw [qi7 r (some e) e.at rest h4]
  simp
theorem qlg {cpu : Nat} : ∀ (es : List Ev) (p : Option Ev) (b : Bs) (i : Nat), Chain cpu p b es → (∀ q, p = some q → b = q.at ∧ q.cpu = cpu) → rowGo p i es = (-1, 0)
 | [], _, _, _, _, _ => rfl
 | e :: r, p, b, i, h, hp => by
  obtain ⟨h1, h2, h3, h4⟩ := h
  rw [rowGo, if_neg (by simp [h1.check]), if_neg]
  ·exact qlg r (some e) e.at (i + 1) h4 (fun q hq => by injection hq with hq; subst hq; exact ⟨rfl, h2⟩)
  ·cases p with
   | none => simp
   | some q =>
    obtain ⟨rfl, hc⟩ := hp q rfl
    have hb := h1.behind
    unfold Bs.behind Ev.at at hb
    simp only [decide_eq_true_eq] at hb
    have := h3 q rfl
    have haf : e.after q = true := by
     unfold Ev.after
     rw [decide_eq_true_eq]
     exact ⟨by rw [h2, hc], this, hb.2⟩
    simp [haf]
theorem qlh {cpu : Nat} {es : List Ev} {b : Bs} (hb : b.right = true) (h : Chain cpu none b es) : rowR es = (-1, 0) ∧ zg b es = 0 ∧ zr b es = recs b es := by
 have h1 : rowR es = (-1, 0) := qlg es none b 0 h (fun q hq => by cases hq)
 have h2 : zg b es = 0 := by
  unfold zg
  have hh : es.head?.all b.behind = true := by
   cases es with
   | nil => rfl
   | cons e r => simpa using h.1.behind
  rw [h1, if_neg (by simp), if_pos ⟨hb, hh⟩]
 refine ⟨h1, h2, ?_⟩
 unfold zr
 rw [if_pos h2]
theorem qli {cpu : Nat} {es : List Ev} {b : Bs} (hb : b.right = true) (h : Chain cpu none b es) (rest : List Nat) : readR b cpu (es.length : Int) (recs b es ++ rest) = (es, (recs b es).length, 0) := by
 unfold readR
 rw [if_neg (by omega), if_neg (by simp [hb])]
 exact qi7 es none b rest h
structure Bk where
 kind : Nat
 cpu : Nat
 lost : Int
 next : Int
 evs : List Ev
structure Bk.Ok (b : Bk) : Prop where
 kind : b.kind < 256
 cpu : b.cpu < 256
 lost : I64 b.lost
 next : I64 b.next
 evs : ∀ e ∈ b.evs, e.Ok
def Bk.zero : Bk := ⟨0, 0, 0, 0, []⟩
def Bk.qin (b : Bk) : Bool := match b.evs with
 | [] => decide (0 < b.lost)
 | e :: _ => decide (e.cpu = b.cpu)
def Bk.qc1 (b : Bk) : Bool := decide ((rowR b.evs).2 = 0 ∧ b.cpu < 64 ∧ 0 ≤ b.lost ∧ b.lost ≤ 281474976710656 ∧ b.next = 0 ∧ b.qin = true)
def Bk.qfk (b : Bk) : Bool := decide (1 ≤ b.next ∧ b.next ≤ 281474976710657 ∧ b.cpu = 0 ∧ b.lost = 0 ∧ b.evs.length = 0)
def Bk.fits (b : Bk) : Bool := if b.kind = 1 then b.qc1 else if b.kind = 2 then b.qfk else false
def Bk.base (b : Bk) : Bs := (b.evs.headD Ev.zero).at
def Bk.body (b : Bk) : List Nat :=
 if b.kind = 2 then vbytes b.next.toNat
 else vbytes b.cpu ++ vbytes b.lost.toNat ++ vbytes b.evs.length ++ (if b.evs.length = 0 then [] else vbytes b.base.seq.toNat ++ vbytes b.base.time.toNat ++ recs b.base b.evs)
def le4 (n : Nat) : List Nat := [n % 256, n / 256 % 256, n / 65536 % 256, n / 16777216 % 256]
def Bk.raw (b : Bk) : List Nat := le4 (12 + b.body.length) ++ [113, 116, 1, b.kind] ++ b.body
def sealL (l : List Nat) : List Nat := l ++ le4 (qq l)
def Bk.err (b : Bk) : Nat := if b.fits = false then 107 else if 4096 < 12 + b.body.length then 3 else 0
def Bk.out (b : Bk) : List Nat := if b.err = 0 then sealL b.raw else []
def num4 (l : List Nat) : Nat := l.getD 0 0 + 256 * l.getD 1 0 + 65536 * l.getD 2 0 + 16777216 * l.getD 3 0
def lenR (l : List Nat) : Nat × Nat := if l.length < 4 then (0, 100) else if num4 l < 13 ∨ 4096 < num4 l then (0, 101) else if l.length < num4 l then (0, 100) else (num4 l, 0)
def qao (l : List Nat) : Bool := decide (4 ≤ l.length ∧ qq (l.take (l.length - 4)) = num4 (l.drop (l.length - 4)))
def tkOk (most : Nat) (l : List Nat) : Bool := decide ((vread l).2.2 = 0 ∧ (vread l).1 ≤ most)
def qc (l : List Nat) : List Nat := l.drop (vread l).2.1
def tkVal (most : Nat) (l : List Nat) : Nat := if most < (vread l).1 then most else (vread l).1
def qa8 (l : List Nat) : Option Bk :=
 if tkOk 281474976710657 l = true ∧ (qc l).length = 0 ∧ Bk.fits ⟨2, 0, 0, tkVal 281474976710657 l, []⟩ = true then some ⟨2, 0, 0, tkVal 281474976710657 l, []⟩ else none
def qar (cpu lost : Nat) (l : List Nat) (q : List Ev × Nat × Nat) : Option Bk :=
 if q.2.2 = 0 ∧ (q.1.headD Ev.zero).seq = tkVal 281474976710656 l ∧ (q.1.headD Ev.zero).time = tkVal 281474976710656 (qc l) ∧ tkOk 281474976710656 l = true ∧ tkOk 281474976710656 (qc l) = true ∧ ((qc (qc l)).drop q.2.1).length = 0 ∧ Bk.fits ⟨1, cpu, lost, 0, q.1⟩ = true then some ⟨1, cpu, lost, 0, q.1⟩ else none
def qc3 (l : List Nat) : Bool := tkOk 63 l && tkOk 281474976710656 (qc l) && tkOk 4096 (qc (qc l))
def zq (l : List Nat) : Option Bk :=
 if qc3 l = true ∧ 0 < tkVal 4096 (qc (qc l)) then
  qar (tkVal 63 l) (tkVal 281474976710656 (qc l)) (qc (qc (qc l)))
   (readR ⟨tkVal 281474976710656 (qc (qc (qc l))), tkVal 281474976710656 (qc (qc (qc (qc l))))⟩ (tkVal 63 l) (tkVal 4096 (qc (qc l))) (qc (qc (qc (qc (qc l))))))
 else if qc3 l = true ∧ (qc (qc (qc l))).length = 0 ∧ Bk.fits ⟨1, tkVal 63 l, tkVal 281474976710656 (qc l), 0, []⟩ = true then some ⟨1, tkVal 63 l, tkVal 281474976710656 (qc l), 0, []⟩ else none
def qde (kind : Nat) (l : List Nat) : Option Bk := if kind = 2 then qa8 l else zq l
def blkOf (l : List Nat) : Option Bk × Nat :=
 if qao l = false then (none, 102)
 else if ¬ (l.getD 4 0 = 113 ∧ l.getD 5 0 = 116) then (none, 103)
 else if l.getD 6 0 ≠ 1 then (none, 104)
 else if l.getD 7 0 ≠ 1 ∧ l.getD 7 0 ≠ 2 then (none, 105)
 else match qde (l.getD 7 0) ((l.take (l.length - 4)).drop 8) with
  | none => (none, 106)
  | some b => (some b, 0)
def readB (l : List Nat) : Bk × Nat × Nat :=
 if (lenR l).2 ≠ 0 then (Bk.zero, 0, (lenR l).2)
 else match (blkOf (l.take (lenR l).1)).1 with
  | some b => (b, (lenR l).1, 0)
  | none => (Bk.zero, 0, (blkOf (l.take (lenR l).1)).2)
theorem qdv {most : Nat} {l : List Nat} (hl : ∀ x ∈ l, x < 256) (h : tkOk most l = true) : ∃ x m, vread l = (x, m, 0) ∧ tkVal most l = x ∧ x ≤ most ∧ vbytes x = l.take m ∧ qc l = l.drop m ∧ vbytes x ++ qc l = l := by
 unfold tkOk at h
 rw [decide_eq_true_eq] at h
 refine ⟨(vread l).1, (vread l).2.1, by rw [← h.1], by unfold tkVal; rw [if_neg (by omega)], h.2, ?_, rfl, ?_⟩
 ·exact qgq hl (by rw [← h.1])
 ·have := qgq hl (show vread l = ((vread l).1, (vread l).2.1, 0) by rw [← h.1])
  rw [this]
  exact List.take_append_drop _ _
theorem zz {l : List Nat} (hl : ∀ x ∈ l, x < 256) : ∀ x ∈ qc l, x < 256 := fun x hx => hl x (List.mem_of_mem_drop hx)
theorem tk_of {most x : Nat} (rest : List Nat) (h : x ≤ most) (h64 : x < 18446744073709551616) : tkOk most (vbytes x ++ rest) = true ∧ tkVal most (vbytes x ++ rest) = x ∧ qc (vbytes x ++ rest) = rest := by
 unfold tkOk tkVal qc
 rw [qh0 rest h64]
 refine ⟨by simp [h], by simp; omega, by simp⟩
theorem qfz {b : Bk} (h : b.fits = true) (hk : b.kind = 2) : b.qfk = true := by unfold Bk.fits at h; rwa [if_neg (by omega), if_pos hk] at h
theorem qb6 {b : Bk} (h : b.fits = true) (hk : b.kind ≠ 2) : b.kind = 1 ∧ b.qc1 = true := by
 unfold Bk.fits at h
 split at h
 ·rename_i h1; exact ⟨h1, h⟩
 ·cases h
theorem qlm (b : Bs) (e : Ev) : 1 ≤ (zk b e).length := by unfold zk; simp
theorem qsb (b : Bs) (e : Ev) : (zk b e).length ≤ 61 := by
 unfold zk qaf
 have h1 := qr (e.seq - b.seq).toNat
 have h2 := qr (e.time - b.time).toNat
 have h3 := qas e.vals
 have h4 : e.vals.length ≤ 4 := by unfold Ev.vals; rw [List.length_map]; exact qbb _
 simp only [List.length_cons, List.flatMap_cons, List.length_append]
 omega
theorem qf0 : ∀ (l : List Ev) (b : Bs), (recs b l).length ≤ 61 * l.length
 | [], _ => by simp [recs]
 | e :: r, b => by
  have h1 := qsb b e
  have h2 := qf0 r e.at
  rw [recs, List.length_append, List.length_cons]
  omega
theorem qsc : ∀ (l : List Ev) (b : Bs), l.length ≤ (recs b l).length
 | [], _ => by simp
 | e :: r, b => by
  have := qsc r e.at
  have := qlm b e
  rw [recs, List.length_cons, List.length_append]
  omega
theorem qyi {b : Bk} (hk : b.kind ≠ 2) : b.evs.length ≤ b.body.length := by
 unfold Bk.body
 rw [if_neg hk]
 split
 ·omega
 ·have := qsc b.evs b.base
  simp only [List.length_append]
  omega
theorem qg9 {cpu : Nat} : ∀ (es : List Ev) (p : Option Ev) (b : Bs) (i : Nat), (∀ e ∈ es, e.Ok) → b.right = true → (∀ e ∈ es.head?, b.behind e = true ∧ e.cpu = cpu) → (∀ q, p = some q → b = q.at ∧ q.cpu = cpu) → (rowGo p i es).2 = 0 → Chain cpu p b es
 | [], _, _, _, _, _, _, _, _ => trivial
 | e :: r, p, b, i, hok, hb, hh, hp, h => by
  rw [rowGo] at h
  split at h
  ·rename_i h1; exact absurd h h1
  ·rename_i h1
   split at h
   ·cases h
   ·rename_i h2
    have hc : e.check = 0 := by omega
    obtain ⟨g1, g2⟩ := hh e (by simp)
    refine ⟨⟨hb, hc, hok e (by simp), g1⟩, g2, ?_, ?_⟩
    ·intro q hq
     subst hq
     simp [Ev.after] at h2
     omega
    ·refine qg9 r (some e) e.at (i + 1) (fun x hx => hok x (by simp [hx])) (qkc hc) ?_ (fun q hq => by injection hq with hq; subst hq; exact ⟨rfl, g2⟩) h
     intro x hx
     cases r with
     | nil => cases hx
     | cons y r =>
      simp at hx
      subst hx
      rw [rowGo] at h
      split at h
      ·rename_i h3; exact absurd h h3
      ·split at h
       ·cases h
       ·rename_i h4
        simp [Ev.after] at h4
        refine ⟨?_, by omega⟩
        unfold Bs.behind Ev.at
        rw [decide_eq_true_eq]
        exact ⟨by show e.seq ≤ y.seq; omega, h4.2.2⟩
theorem qu7 {l : List Ev} {e : Ev} (h : (rowR l).2 = 0) (he : l.head? = some e) : e.check = 0 := by
 cases l with
 | nil => cases he
 | cons x r =>
  injection he with he
  subst he
  unfold rowR at h
  rw [rowGo] at h
  split at h
  ·rename_i h1; exact absurd h h1
  ·omega
theorem qm2 (e : Ev) : e.at.behind e = true := by unfold Bs.behind Ev.at; rw [decide_eq_true_eq]; exact ⟨Int.le_refl _, Int.le_refl _⟩
structure EvsFit (b : Bk) (e : Ev) (r : List Ev) : Prop where
 evs : b.evs = e :: r
 cpu : e.cpu = b.cpu
 base : b.base = e.at
 check : e.check = 0
 right : e.at.right = true
 chain : Chain b.cpu none e.at b.evs
theorem qdw {b : Bk} (hok : b.Ok) (h : b.qc1 = true) (hn : b.evs.length ≠ 0) : ∃ e r, EvsFit b e r := by
 unfold Bk.qc1 at h
 rw [decide_eq_true_eq] at h
 obtain ⟨h1, h2, h3, h4, h5, h6⟩ := h
 cases hev : b.evs with
 | nil => rw [hev] at hn; simp at hn
 | cons e r =>
  have hc : e.check = 0 := qu7 h1 (by rw [hev]; rfl)
  have hcpu : e.cpu = b.cpu := by unfold Bk.qin at h6; rw [hev] at h6; simpa using h6
  refine ⟨e, r, hev, hcpu, by unfold Bk.base; rw [hev]; rfl, hc, qkc hc, ?_⟩
  refine qg9 b.evs none e.at 0 hok.evs (qkc hc) ?_ (fun q hq => by cases hq) h1
  intro x hx
  rw [hev] at hx
  simp at hx
  subst hx
  exact ⟨qm2 _, hcpu⟩
theorem qi9 {b : Bk} (hok : b.Ok) (h : b.qc1 = true) (hn : b.evs.length ≠ 0) : zg b.base b.evs = 0 ∧ zr b.base b.evs = recs b.base b.evs := by
 obtain ⟨e, r, g⟩ := qdw hok h hn
 rw [g.base]
 obtain ⟨_, h1, h2⟩ := qlh g.right g.chain
 exact ⟨h1, h2⟩
theorem qwj {e : Ev} (h : e.at.right = true) : ((e.seq.toNat : Nat) : Int) = e.seq ∧ ((e.time.toNat : Nat) : Int) = e.time ∧ e.seq.toNat ≤ 281474976710656 ∧ e.time.toNat ≤ 281474976710656 := by
 unfold Bs.right Ev.at at h
 rw [decide_eq_true_eq] at h
 obtain ⟨h1, h2, h3, h4⟩ := h
 have h1 : 1 ≤ e.seq := h1
 have h2 : e.seq ≤ 281474976710656 := h2
 have h3 : 0 ≤ e.time := h3
 have h4 : e.time ≤ 281474976710656 := h4
 omega
theorem qsd {b : Bk} (h1 : b.kind = 1) (h2 : b.next = 0) (l : Nat) (hl : (l : Int) = b.lost) : (⟨1, b.cpu, (l : Int), 0, b.evs⟩ : Bk) = b := by
 cases b
 simp only at h1 h2 hl
 subst h1; subst h2; rw [hl]
theorem qpj {b : Bk} (hok : b.Ok) (h : b.fits = true) (hn : b.evs.length ≤ 4096) : qde b.kind b.body = some b := by
 unfold qde
 split
 ·rename_i hk
  have hf := h
  have h := qfz h hk
  unfold Bk.qfk at h
  rw [decide_eq_true_eq] at h
  obtain ⟨h1, h2, h3, h4, h5⟩ := h
  have hx : ((b.next.toNat : Nat) : Int) = b.next := by omega
  have he : (⟨2, 0, 0, ((b.next.toNat : Nat) : Int), []⟩ : Bk) = b := by
   rw [hx]
   cases b
   simp only at hk h3 h4 h5
   rw [List.length_eq_zero_iff] at h5
   subst hk; subst h3; subst h4; subst h5; rfl
  unfold Bk.body qa8
  rw [if_pos hk]
  obtain ⟨t1, t2, t3⟩ := tk_of (most := 281474976710657) (x := b.next.toNat) [] (by omega) (by omega)
  rw [List.append_nil] at t1 t2 t3
  rw [t1, t2, t3, he, hf]
  simp
 ·rename_i hk
  obtain ⟨hk1, hE⟩ := qb6 h hk
  have hE' := hE
  unfold Bk.qc1 at hE'
  rw [decide_eq_true_eq] at hE'
  obtain ⟨h1, h2, h3, h4, h5, h6⟩ := hE'
  have hlost : ((b.lost.toNat : Nat) : Int) = b.lost := by omega
  have heta := qsd hk1 h5 b.lost.toNat hlost
  unfold Bk.body zq
  rw [if_neg hk]
  simp only [List.append_assoc]
  generalize hR : (if b.evs.length = 0 then [] else vbytes b.base.seq.toNat ++ (vbytes b.base.time.toNat ++ recs b.base b.evs)) = R
  obtain ⟨a1, a2, a3⟩ := tk_of (most := 63) (x := b.cpu) (vbytes b.lost.toNat ++ (vbytes b.evs.length ++ R)) (by omega) (by omega)
  obtain ⟨b1, b2, b3⟩ := tk_of (most := 281474976710656) (x := b.lost.toNat) (vbytes b.evs.length ++ R) (by omega) (by omega)
  obtain ⟨c1, c2, c3⟩ := tk_of (most := 4096) (x := b.evs.length) R hn (by omega)
  unfold qc3
  rw [a3, b3, c3, a1, a2, b1, b2, c1, c2]
  by_cases h0 : b.evs.length = 0
  ·rw [if_pos h0] at hR
   subst hR
   rw [if_neg (by omega), if_pos]
   ·rw [List.length_eq_zero_iff] at h0
    rw [h0] at heta
    rw [heta]
   ·refine ⟨rfl, rfl, ?_⟩
    rw [List.length_eq_zero_iff] at h0
    rw [h0] at heta
    rw [heta]; exact h
  ·rw [if_neg h0] at hR
   obtain ⟨e, r, g⟩ := qdw hok hE h0
   obtain ⟨n1, n2, n3, n4⟩ := qwj g.right
   rw [g.base] at hR
   subst hR
   obtain ⟨d1, d2, d3⟩ := tk_of (most := 281474976710656) (x := e.at.seq.toNat) (vbytes e.at.time.toNat ++ recs e.at b.evs) n3 (by have := n3; show e.seq.toNat < _; omega)
   obtain ⟨e1, e2, e3⟩ := tk_of (most := 281474976710656) (x := e.at.time.toNat) (recs e.at b.evs) n4 (by have := n4; show e.time.toNat < _; omega)
   have hb : (⟨((e.at.seq.toNat : Nat) : Int), ((e.at.time.toNat : Nat) : Int)⟩ : Bs) = e.at := by
    show (⟨((e.seq.toNat : Nat) : Int), ((e.time.toNat : Nat) : Int)⟩ : Bs) = ⟨e.seq, e.time⟩
    rw [n1, n2]
   have hq := qli g.right g.chain []
   rw [List.append_nil] at hq
   rw [if_pos ⟨rfl, by omega⟩]
   unfold qar
   rw [d3, d2, e2, e3, d1, e1, hb, hq, if_pos]
   ·rw [heta]
   ·refine ⟨rfl, ?_, ?_, rfl, rfl, by simp, by rw [heta]; exact h⟩
    ·rw [g.evs]; exact n1.symm
    ·rw [g.evs]; exact n2.symm
theorem qef {x : Nat} (h : x ≤ 281474976710657) : I64 (x : Int) := by unfold I64; omega
theorem qpk {k : Nat} (hk : k = 1 ∨ k = 2) {l : List Nat} (hl : ∀ x ∈ l, x < 256) {b : Bk} (h : qde k l = some b) : b.kind = k ∧ b.Ok ∧ b.fits = true ∧ b.body = l ∧ b.evs.length ≤ 4096 := by
 unfold qde at h
 split at h
 ·rename_i hk2
  unfold qa8 at h
  split at h
  ·rename_i hc
   obtain ⟨c1, c2, c3⟩ := hc
   obtain ⟨x, m, v1, v2, v3, v4, v5, v6⟩ := qdv hl c1
   injection h with h
   subst h
   rw [v2] at c3 ⊢
   refine ⟨hk2.symm, ⟨by show 2 < 256; decide, by show 0 < 256; decide, by unfold I64; simp, qef v3, by simp⟩, c3, ?_, by simp⟩
   rw [List.length_eq_zero_iff] at c2
   rw [c2, List.append_nil] at v6
   unfold Bk.body
   rw [if_pos rfl]
   simpa using v6
  ·cases h
 ·rename_i hk2
  have hk1 : k = 1 := by omega
  unfold zq at h
  split at h
  ·rename_i hc
   obtain ⟨c1, c2⟩ := hc
   unfold qc3 at c1
   simp only [Bool.and_eq_true] at c1
   obtain ⟨⟨c1, c3⟩, c4⟩ := c1
   obtain ⟨x1, m1, _, u1, u2, _, _, u3⟩ := qdv hl c1
   have hl1 := zz hl
   obtain ⟨x2, m2, _, u4, u5, _, _, u6⟩ := qdv hl1 c3
   have hl2 := zz hl1
   obtain ⟨x3, m3, _, u7, u8, _, _, u9⟩ := qdv hl2 c4
   have hl3 := zz hl2
   rw [u1, u4, u7] at h
   rw [u7] at c2
   generalize qc (qc (qc l)) = l3 at h u9 hl3
   unfold qar at h
   split at h
   ·rename_i hd
    obtain ⟨d1, d2, d3, d4, d5, d6, d7⟩ := hd
    obtain ⟨y1, _, _, w1, w2, _, _, w3⟩ := qdv hl3 d4
    have hl4 := zz hl3
    obtain ⟨y2, _, _, w4, w5, _, _, w6⟩ := qdv hl4 d5
    have hl5 := zz hl4
    rw [w1, w4] at h d1 d2 d3 d6 d7
    generalize qc (qc l3) = l5 at h w6 hl5 d1 d2 d3 d6 d7
    generalize hq : readR ⟨(y1 : Int), (y2 : Int)⟩ x1 (x3 : Int) l5 = q at h d1 d2 d3 d6 d7
    obtain ⟨es, u, er⟩ := q
    simp only at h d1 d2 d3 d6 d7
    subst d1
    injection h with h
    subst h
    obtain ⟨r1, r2, r3, r4, r5⟩ := qeq (by omega) hl5 hq
    have hes : es.length = x3 := by omega
    refine ⟨hk1.symm, ⟨by show 1 < 256; decide, by show x1 < 256; omega, qef (by show x2 ≤ _; omega), by unfold I64; simp, fun e he => (r5 e he).1⟩, d7, ?_, by show es.length ≤ 4096; omega⟩
    have hu : l5.take u = l5 := List.take_of_length_le (by rw [List.length_drop] at d6; omega)
    rw [hu] at r3
    have hrecs : recs ⟨(y1 : Int), (y2 : Int)⟩ es = l5 := by
     unfold zr at r3
     rw [if_pos r2] at r3
     exact r3
    unfold Bk.body
    rw [if_neg (by show ¬ 1 = 2; omega)]
    show vbytes x1 ++ vbytes ((x2 : Int)).toNat ++ vbytes es.length ++ (if es.length = 0 then [] else vbytes (Bk.base ⟨1, x1, x2, 0, es⟩).seq.toNat ++ vbytes (Bk.base ⟨1, x1, x2, 0, es⟩).time.toNat ++ recs (Bk.base ⟨1, x1, x2, 0, es⟩) es) = l
    have hbase : Bk.base ⟨1, x1, x2, 0, es⟩ = ⟨(y1 : Int), (y2 : Int)⟩ := by
     unfold Bk.base Ev.at
     show (⟨(es.headD Ev.zero).seq, (es.headD Ev.zero).time⟩ : Bs) = _
     rw [d2, d3]
    rw [hbase, hrecs, if_neg (by omega), hes, Int.toNat_natCast, ← u3, ← u6, ← u9, ← w3, ← w6]
    simp
   ·cases h
  ·split at h
   ·rename_i hc0 hc
    obtain ⟨c1, c2, c3⟩ := hc
    have c0 : ¬ 0 < tkVal 4096 (qc (qc l)) := fun hh => hc0 ⟨c1, hh⟩
    unfold qc3 at c1
    simp only [Bool.and_eq_true] at c1
    obtain ⟨⟨c1, c5⟩, c4⟩ := c1
    obtain ⟨x1, m1, _, u1, u2, _, _, u3⟩ := qdv hl c1
    have hl1 := zz hl
    obtain ⟨x2, m2, _, u4, u5, _, _, u6⟩ := qdv hl1 c5
    have hl2 := zz hl1
    obtain ⟨x3, m3, _, u7, u8, _, _, u9⟩ := qdv hl2 c4
    rw [u1, u4] at h c3
    rw [u7] at c0
    obtain rfl : x3 = 0 := by omega
    injection h with h
    subst h
    refine ⟨hk1.symm, ⟨by show 1 < 256; decide, by show x1 < 256; omega, qef (by show x2 ≤ _; omega), by unfold I64; simp, by simp⟩, c3, ?_, by simp⟩
    rw [List.length_eq_zero_iff] at c2
    rw [c2, List.append_nil] at u9
    unfold Bk.body
    rw [if_neg (by show ¬ 1 = 2; omega)]
    show vbytes x1 ++ vbytes ((x2 : Int)).toNat ++ vbytes 0 ++ [] = l
    rw [Int.toNat_natCast, ← u3, ← u6, ← u9]
    simp
   ·cases h
def numsR : Nat → List Nat → List Nat × List Nat
 | 0, l => ([], l)
 | k + 1, l => if (vread l).2.2 = 0 then ((vread l).1 :: (numsR k (qc l)).1, (numsR k (qc l)).2) else ([], l)
def looseEnd (l : List Nat) : Bk := ⟨2, 0, 0, if (numsR 1 l).1.length = 1 then wrap64 ((numsR 1 l).1.getD 0 0 : Int) else 0, []⟩
def qav (cpu n : Nat) (l : List Nat) : List Ev :=
 if 0 < n ∧ n ≤ 4096 ∧ (numsR 2 l).1.length = 2 then (readR ⟨wrap64 ((numsR 2 l).1.getD 0 0 : Int), wrap64 ((numsR 2 l).1.getD 1 0 : Int)⟩ cpu n (numsR 2 l).2).1 else []
def qdy (k : Nat) (l : List Nat) : Bk :=
 if (numsR 3 l).1.length < 3 then ⟨k, 0, 0, 0, []⟩
 else ⟨k, (numsR 3 l).1.getD 0 0 % 256, wrap64 ((numsR 3 l).1.getD 1 0 : Int), 0, qav ((numsR 3 l).1.getD 0 0 % 256) ((numsR 3 l).1.getD 2 0) (numsR 3 l).2⟩
def loose (k : Nat) (l : List Nat) : Bk := if k = 2 then looseEnd l else qdy k l
def refOf (l : List Nat) : Option Bk × Nat :=
 if qao l = false then (none, 102)
 else if ¬ (l.getD 4 0 = 113 ∧ l.getD 5 0 = 116) then (none, 103)
 else if l.getD 6 0 ≠ 1 then (none, 104)
 else if l.getD 7 0 ≠ 1 ∧ l.getD 7 0 ≠ 2 then (none, 105)
 else if (loose (l.getD 7 0) ((l.take (l.length - 4)).drop 8)).err ≠ 0 ∨ (loose (l.getD 7 0) ((l.take (l.length - 4)).drop 8)).raw ≠ l.take (l.length - 4) then (none, 106)
 else (some (loose (l.getD 7 0) ((l.take (l.length - 4)).drop 8)), 0)
theorem qcr {x k : Nat} (rest : List Nat) (h : x < 18446744073709551616) : numsR (k + 1) (vbytes x ++ rest) = (x :: (numsR k rest).1, (numsR k rest).2) := by
 obtain ⟨_, _, h3⟩ := tk_of (most := x) rest (Nat.le_refl _) h
 rw [numsR, h3, qh0 rest h]
 simp
theorem qes : ∀ (k : Nat) (l : List Nat), (∀ b ∈ l, b < 256) → ∀ b ∈ (numsR k l).2, b < 256
 | 0, l, hl => hl
 | k + 1, l, hl => by
  rw [numsR]
  split
  ·exact qes k _ (zz hl)
  ·exact hl
theorem qhl {x : Nat} (h : x ≤ 281474976710657) : wrap64 (x : Int) = (x : Int) := by unfold wrap64; omega
theorem qna {l r : List Nat} {x : Nat} (h : numsR 1 l = ([x], r)) : looseEnd l = ⟨2, 0, 0, wrap64 (x : Int), []⟩ := by unfold looseEnd; rw [h]; simp
theorem qnb {k a b c : Nat} {l r : List Nat} (h : numsR 3 l = ([a, b, c], r)) : qdy k l = ⟨k, a % 256, wrap64 (b : Int), 0, qav (a % 256) c r⟩ := by unfold qdy; rw [h]; simp
theorem qnc {cpu n x y : Nat} {l r : List Nat} (h : numsR 2 l = ([x, y], r)) (h1 : 0 < n) (h2 : n ≤ 4096) : qav cpu n l = (readR ⟨wrap64 (x : Int), wrap64 (y : Int)⟩ cpu n r).1 := by unfold qav; rw [h, if_pos ⟨h1, h2, rfl⟩]; simp
theorem qpt {b : Bk} (hok : b.Ok) (h : b.fits = true) (hn : b.evs.length ≤ 4096) : loose b.kind b.body = b := by
 unfold loose
 split
 ·rename_i hk
  have h := qfz h hk
  unfold Bk.qfk at h
  rw [decide_eq_true_eq] at h
  obtain ⟨h1, h2, h3, h4, h5⟩ := h
  have hx : ((b.next.toNat : Nat) : Int) = b.next := by omega
  unfold Bk.body
  rw [if_pos hk]
  have hq := qcr (x := b.next.toNat) (k := 0) [] (by omega)
  rw [List.append_nil] at hq
  rw [qna hq, qhl (by omega), hx]
  cases b
  simp only at hk h3 h4 h5
  rw [List.length_eq_zero_iff] at h5
  subst hk; subst h3; subst h4; subst h5; rfl
 ·rename_i hk
  obtain ⟨hk1, hE⟩ := qb6 h hk
  have hE' := hE
  unfold Bk.qc1 at hE'
  rw [decide_eq_true_eq] at hE'
  obtain ⟨h1, h2, h3, h4, h5, h6⟩ := hE'
  have hlost : ((b.lost.toNat : Nat) : Int) = b.lost := by omega
  have heta := qsd hk1 h5 b.lost.toNat hlost
  unfold Bk.body
  rw [if_neg hk]
  simp only [List.append_assoc]
  generalize hR : (if b.evs.length = 0 then [] else vbytes b.base.seq.toNat ++ (vbytes b.base.time.toNat ++ recs b.base b.evs)) = R
  have hq : numsR 3 (vbytes b.cpu ++ (vbytes b.lost.toNat ++ (vbytes b.evs.length ++ R))) = ([b.cpu, b.lost.toNat, b.evs.length], R) := by
   rw [qcr _ (by omega), qcr _ (by omega), qcr _ (by omega)]
   rfl
  rw [qnb hq, Nat.mod_eq_of_lt (by omega), qhl (by omega)]
  have hrow : qav b.cpu b.evs.length R = b.evs := by
   by_cases h0 : b.evs.length = 0
   ·unfold qav
    rw [if_neg (by omega)]
    exact (List.length_eq_zero_iff.1 h0).symm
   ·rw [if_neg h0] at hR
    obtain ⟨e, r, g⟩ := qdw hok hE h0
    obtain ⟨n1, n2, n3, n4⟩ := qwj g.right
    rw [g.base] at hR
    subst hR
    have hq2 : numsR 2 (vbytes e.at.seq.toNat ++ (vbytes e.at.time.toNat ++ recs e.at b.evs)) = ([e.at.seq.toNat, e.at.time.toNat], recs e.at b.evs) := by
     rw [qcr _ (by have := n3; show e.seq.toNat < _; omega), qcr _ (by have := n4; show e.time.toNat < _; omega)]
     rfl
    rw [qnc hq2 (by omega) hn, qhl (x := e.at.seq.toNat) (show e.seq.toNat ≤ _ by omega), qhl (x := e.at.time.toNat) (show e.time.toNat ≤ _ by omega)]
    rw [show ((e.at.seq.toNat : Nat) : Int) = e.seq from n1, show ((e.at.time.toNat : Nat) : Int) = e.time from n2]
    have hq3 := qli g.right g.chain []
    rw [List.append_nil] at hq3
    exact congrArg (·.1) hq3
  rw [hrow, hk1]
  exact heta
theorem qje (x : Int) : I64 (wrap64 x) := by unfold wrap64 I64; omega
theorem qvf {b : Bs} {cpu : Nat} {m : Int} {l : List Nat} (hcpu : cpu < 256) (hl : ∀ x ∈ l, x < 256) : ∀ e ∈ (readR b cpu m l).1, e.Ok := by
 intro e he
 by_cases h : (readR b cpu m l).2.2 = 0
 ·obtain ⟨_, _, _, _, r5⟩ := qeq hcpu hl (show readR b cpu m l = ((readR b cpu m l).1, (readR b cpu m l).2.1, 0) by rw [← h])
  exact (r5 e he).1
 ·rw [(qrx h).1] at he
  cases he
theorem qkf {k : Nat} (hk : k = 1 ∨ k = 2) {l : List Nat} (hl : ∀ x ∈ l, x < 256) : (loose k l).Ok ∧ (loose k l).kind = k := by
 have h0 : I64 0 := by unfold I64; omega
 unfold loose
 split
 ·rename_i h2
  refine ⟨⟨by show 2 < 256; decide, by show 0 < 256; decide, h0, ?_, by intro e he; cases he⟩, h2.symm⟩
  unfold looseEnd
  dsimp only
  split
  ·exact qje _
  ·exact h0
 ·unfold qdy
  split
  ·exact ⟨⟨by show k < 256; omega, by show 0 < 256; decide, h0, h0, by intro e he; cases he⟩, rfl⟩
  ·refine ⟨⟨by show k < 256; omega, Nat.mod_lt _ (by decide), qje _, h0, ?_⟩, rfl⟩
   show ∀ e ∈ qav _ _ _, e.Ok
   intro e he
   unfold qav at he
   split at he
   ·exact qvf (Nat.mod_lt _ (by decide)) (qes 2 _ (qes 3 _ hl)) e he
   ·cases he
theorem qof : ∀ {l : List Nat}, (∀ x ∈ l, x < 256) → 4 ≤ l.length → le4 (num4 l) = l.take 4
 | a :: b :: c :: d :: r, hl, _ => by
  have ha := hl a (by simp)
  have hb := hl b (by simp)
  have hc := hl c (by simp)
  have hd := hl d (by simp)
  simp [le4, num4]
  omega
 | [], _, h => by simp at h
 | [_], _, h => by simp at h
 | [_, _], _, h => by simp at h
 | [_, _, _], _, h => by simp at h
theorem qvg {n : Nat} (h : n < 4294967296) (r : List Nat) : num4 (le4 n ++ r) = n := by simp [num4, le4]; omega
theorem take8 : ∀ {l : List Nat} {n : Nat}, 8 ≤ n → n ≤ l.length → l.take n = l.take 4 ++ [l.getD 4 0, l.getD 5 0, l.getD 6 0, l.getD 7 0] ++ (l.take n).drop 8
 | a :: b :: c :: d :: e :: f :: g :: h :: r, n, h1, h2 => by
  obtain ⟨m, rfl⟩ : ∃ m, n = m + 8 := ⟨n - 8, by omega⟩
  simp
 | [], _, _, h => by simp at h; omega
 | [_], _, _, h => by simp at h; omega
 | [_, _], _, _, h => by simp at h; omega
 | [_, _, _], _, _, h => by simp at h; omega
 | [_, _, _, _], _, _, h => by simp at h; omega
 | [_, _, _, _, _], _, _, h => by simp at h; omega
 | [_, _, _, _, _, _], _, _, h => by simp at h; omega
 | [_, _, _, _, _, _, _], _, _, h => by simp at h; omega
theorem qvh (b : Bk) : b.raw.drop 8 = b.body := by unfold Bk.raw; rfl
theorem qvi {l : List Nat} (hl : ∀ x ∈ l, x < 256) (hn : num4 l = l.length) (h13 : 13 ≤ l.length) {b : Bk} (h4 : l.getD 4 0 = 113) (h5 : l.getD 5 0 = 116) (h6 : l.getD 6 0 = 1) (h7 : l.getD 7 0 = b.kind) (hb : b.body = (l.take (l.length - 4)).drop 8) : b.raw = l.take (l.length - 4) := by
 rw [take8 (by omega) (by omega), ← hb, h4, h5, h6, h7, ← qof hl (by omega), hn]
 unfold Bk.raw
 have : b.body.length = l.length - 12 := by rw [hb, List.length_drop, List.length_take]; omega
 rw [show 12 + b.body.length = l.length by omega]
theorem qpu {l : List Nat} (hl : ∀ x ∈ l, x < 256) (hn : num4 l = l.length) (h13 : 13 ≤ l.length) (h4096 : l.length ≤ 4096) : refOf l = blkOf l := by
 unfold refOf blkOf
 split
 ·rfl
 ·split
  ·rfl
  ·rename_i h45
   split
   ·rfl
   ·rename_i h6
    split
    ·rfl
    ·rename_i h7
     have hk : l.getD 7 0 = 1 ∨ l.getD 7 0 = 2 := by omega
     have h45 : l.getD 4 0 = 113 ∧ l.getD 5 0 = 116 := Decidable.of_not_not h45
     have h6 : l.getD 6 0 = 1 := by omega
     have hbl : ∀ x ∈ (l.take (l.length - 4)).drop 8, x < 256 := fun x hx => hl x (List.mem_of_mem_take (List.mem_of_mem_drop hx))
     have hlen : ((l.take (l.length - 4)).drop 8).length = l.length - 12 := by rw [List.length_drop, List.length_take]; omega
     cases hp : qde (l.getD 7 0) ((l.take (l.length - 4)).drop 8) with
     | some b =>
      obtain ⟨b1, b2, b3, b4, b5⟩ := qpk hk hbl hp
      have hloose := qpt b2 b3 b5
      rw [b1, b4] at hloose
      rw [hloose]
      have herr : b.err = 0 := by
       unfold Bk.err
       rw [if_neg (by simp [b3]), if_neg (by rw [b4, hlen]; omega)]
      rw [if_neg]
      intro hh
      rcases hh with hh | hh
      ·exact hh herr
      ·exact hh (qvi hl hn h13 h45.1 h45.2 h6 b1.symm b4)
     | none =>
      rw [if_pos]
      obtain ⟨l1, l2⟩ := qkf hk hbl
      generalize hb : loose (l.getD 7 0) ((l.take (l.length - 4)).drop 8) = b at l1 l2
      by_cases he : b.err = 0
      ·right
       intro hraw
       have hbody : b.body = (l.take (l.length - 4)).drop 8 := by rw [← qvh, hraw]
       have hfit : b.fits = true := by
        unfold Bk.err at he
        split at he
        ·cases he
        ·rename_i hf; simpa using hf
       have h8 : b.evs.length ≤ 4096 := by
        by_cases hk2 : b.kind = 2
        ·have := qfz hfit hk2
         unfold Bk.qfk at this
         rw [decide_eq_true_eq] at this
         omega
        ·have := qyi hk2
         rw [hbody, hlen] at this
         omega
       have := qpj l1 hfit h8
       rw [l2, hbody, hp] at this
       cases this
      ·exact .inl he
def refB (l : List Nat) : Bk × Nat × Nat :=
 if (lenR l).2 ≠ 0 then (Bk.zero, 0, (lenR l).2)
 else match (refOf (l.take (lenR l).1)).1 with
  | some b => (b, (lenR l).1, 0)
  | none => (Bk.zero, 0, (refOf (l.take (lenR l).1)).2)
theorem qnd {l : List Nat} (h : (lenR l).2 = 0) : num4 l = (lenR l).1 ∧ 13 ≤ (lenR l).1 ∧ (lenR l).1 ≤ 4096 ∧ (lenR l).1 ≤ l.length := by
 unfold lenR at h ⊢
 split at h
 ·cases h
 ·split at h
  ·cases h
  ·split at h
   ·cases h
   ·rename_i h1 h2 h3
    rw [if_neg h1, if_neg h2, if_neg h3]
    omega
theorem qsq {l : List Nat} {n : Nat} (h : 4 ≤ n) : num4 (l.take n) = num4 l := by
 have : ∀ i, i < 4 → (l.take n).getD i 0 = l.getD i 0 := fun i hi => by
  rw [List.getD_eq_getElem?_getD, List.getD_eq_getElem?_getD, List.getElem?_take, if_pos (by omega)]
 unfold num4
 rw [this 0 (by omega), this 1 (by omega), this 2 (by omega), this 3 (by omega)]
theorem qsr {l : List Nat} (hl : ∀ x ∈ l, x < 256) : refB l = readB l := by
 unfold refB readB
 split
 ·rfl
 ·rename_i h
  obtain ⟨h1, h2, h3, h4⟩ := qnd (show (lenR l).2 = 0 by omega)
  rw [qpu (fun x hx => hl x (List.mem_of_mem_take hx)) (by rw [qsq (by omega), List.length_take]; omega) (by rw [List.length_take]; omega) (by rw [List.length_take]; omega)] <;> (generalize blkOf (l.take (lenR l).1) = q; rcases q with ⟨_ | b, e⟩ <;> rfl)
section
variable {P : Program} {ops : Array Oper} {Q : Exit → Act → World → Prop} {l : Nat} {md : Region.Mode}
def qmv (ops : Array Oper) : Bool := ops.all fun o => match o.op with | .defer _ => false | _ => true
theorem qpc {i : Nat} {o : Oper} (h : qmv ops = true) (hi : ops[i]? = some o) : ∀ c, o.op ≠ .defer c := by
 intro c hc
 have hm : o ∈ ops := Array.mem_of_getElem? hi
 have := (Array.all_eq_true_iff_forall_mem.1 h) o hm
 rw [hc] at this
 cases this
theorem qrd {o : Oper} {a : Act} {w : World} {K K' : Act → World → Prop} (hd : ∀ c, o.op ≠ .defer c) (hQ : ¬ LetsOut Q) (hK : ∀ a w, K a w → K' a w) (h : o.wp P a w K Q ∨ (o.asks P a w ∧ LetsOut Q)) : o.wpIn (Fence.wide.inRound l) 0 P a w K' Q := by
 rcases h with h | h
 ·refine ⟨fun _ _ => trivial, ?_⟩
  rw [show (Fence.wide.inRound l).round = some l from rfl, Oper.semAt_some l _ _ hd]
  unfold Oper.wp at h
  generalize (execOp a.eval o).run P w = r at h
  cases r with
  | ok x w' =>
   cases x with
   | value v => exact hK _ _ h
   | skip => exact hK _ _ h
   | defer d => exact hK _ _ h
   | enter f args =>
    refine ⟨fun h => by simp [Fence.wide, Fence.inRound] at h, ?_⟩
    show CallsIn Fence.wide 0 P f args w' _
    refine (callsIn_wide.2 h).mono ?_
    intro e w'' he
    cases e with
    | returned v => exact hK _ _ he
    | panicked c => exact he
    | outgrown => exact he
   | row r args =>
    refine ⟨fun h => by simp [Fence.wide, Fence.inRound] at h, fun c cs _ => ?_⟩
    obtain ⟨v, w'', h1, h2⟩ := (h : Rows P r args w' _) c cs
    exact ⟨v, w'', hK _ _ h1, stepsIn_wide.2 h2⟩
   | _ => exact (h : False).elim
  | halt hh w' =>
   cases hh with
   | panic v => exact h
   | _ => exact (h : False).elim
 ·exact absurd h.2 hQ
theorem qhj (hd : qmv ops = true) (hQ : ¬ LetsOut Q) : ∀ (fuel : Nat) (listed : Array Bool) (a : Act) (w : World), wpAny P md ops Q fuel listed a w → wpAnyIn (Fence.wide.inRound l) 0 P md ops Q fuel listed a w
 | 0, _, _, _, h => h
 | fuel + 1, listed, a, w, h => by
  refine ⟨h.1, fun i hi => ?_⟩
  have h2 := h.2 i hi
  unfold wpOp at h2
  unfold wpOpIn
  split at h2
  ·rename_i hn
   rw [hn]
   exact qhj hd hQ fuel _ _ _ h2
  ·rename_i o hn
   rw [hn]
   show if Region.wanted o (yielded ops a.tmps) = true then _ else _
   split at h2
   ·rename_i hw
    rw [if_pos hw]
    exact qrd (qpc hd hn) hQ (fun a w h => qhj hd hQ fuel _ a w h) h2
   ·rename_i hw
    rw [if_neg hw]
    exact ⟨fun _ _ => trivial, qhj hd hQ fuel _ _ _ h2⟩
theorem qeb {id : Nat} {S : World → Prop} {a : Act} {w : World} (hm : P.follows .mixedOrders = true) (hd : qmv ops = true) (hQ : ¬ LetsOut Q) (hS : S w.drew)
  (h : S w.drew → wpAnyH P .any ops Q S ops.size (Array.replicate ops.size false) a w.drew) : (Code.region id ops true).wpIn (Fence.wide.inRound l) 0 P Q a w :=
 wpIn_region_any hm (qhj hd hQ _ _ _ _ (wpAny_of_held _ _ _ _ (h hS)))
end
theorem ei_ev : EI Tryz.prog 26 24 (.agg Ev.zero.cells) 11 80 := ⟨by kernel_rfl, by kernel_rfl, rfl, by omega⟩
def joinE (es : List Ev) (a : Nat) (q : List Ev × Nat × Nat) : List Ev × Nat × Nat := if q.2.2 ≠ 0 then ([], 0, q.2.2) else (es ++ q.1, a + q.2.1, 0)
theorem qk7 {cpu j : Nat} {bk : Bs} {p : Option Ev} {lk : List Nat} {e : Ev} {mm er : Nat} (hq : takeR bk cpu lk = (e, mm, er)) (h : er ≠ 0) (es : List Ev) (a : Nat) : joinE es a (zc cpu (j + 1) bk p lk) = ([], 0, er) := by
 have e1 : zc cpu (j + 1) bk p lk = ([], 0, er) := by rw [zc, hq, if_pos h]
 rw [e1]; unfold joinE; rw [if_pos h]
theorem qi2 {cpu j : Nat} {bk : Bs} {p : Option Ev} {lk : List Nat} {e : Ev} {mm : Nat} (hq : takeR bk cpu lk = (e, mm, 0)) (hp : p.any (fun q => decide (e.seq = q.seq)) = true) (es : List Ev) (a : Nat) : joinE es a (zc cpu (j + 1) bk p lk) = ([], 0, 71) := by
 have e1 : zc cpu (j + 1) bk p lk = ([], 0, 71) := by rw [zc, hq, if_neg (by simp), if_pos hp]
 rw [e1]; rfl
theorem qgj {cpu j : Nat} {bk : Bs} {p : Option Ev} {lk : List Nat} {e : Ev} {mm : Nat} (hq : takeR bk cpu lk = (e, mm, 0)) (hp : p.any (fun q => decide (e.seq = q.seq)) = false) (es : List Ev) (a : Nat) : joinE es a (zc cpu (j + 1) bk p lk) = joinE (es ++ [e]) (a + mm) (zc cpu j e.at (some e) (lk.drop mm)) := by
 rw [zc, hq, if_neg (by simp), if_neg (by simp [hp])]
 simp only
 by_cases h : (zc cpu j e.at (some e) (lk.drop mm)).2.2 = 0
 ·rw [if_neg (by omega)]; unfold joinE; rw [if_neg (by simp), if_neg (by omega)]; simp; omega
 ·rw [if_pos h]; unfold joinE; rw [if_pos h, if_pos h]
theorem qpd (cpu : Nat) : ∀ (j : Nat) (b : Bs) (p : Option Ev) (l : List Nat), (zc cpu j b p l).2.2 ≠ 0 → zc cpu j b p l = ([], 0, (zc cpu j b p l).2.2)
 | 0, _, _, _, h => absurd rfl h
 | j + 1, b, p, l, h => by
  rw [zc] at h ⊢
  split
  ·rfl
  ·split
   ·rfl
   ·split
    ·rfl
    ·rename_i h1 h2 h3
     rw [if_neg h1, if_neg h2, if_neg h3] at h
     exact absurd rfl h
theorem qk8 (cpu j : Nat) (b : Bs) (p : Option Ev) (l : List Nat) : joinE [] 0 (zc cpu j b p l) = zc cpu j b p l := by
 unfold joinE
 by_cases h : (zc cpu j b p l).2.2 = 0
 ·rw [if_neg (by omega)]
  generalize zc cpu j b p l = q at *
  obtain ⟨x, y, z⟩ := q
  simp only at h
  simp [h]
 ·rw [if_pos h]; exact (qpd cpu j b p l h).symm
structure ReadAt (w : World) (o m : Nat) (es : List Ev) (a : Nat) (W : World) (v : Value) : Prop where
 out : OutBox o 26 (o + 5) 24 11 (fun g => o + 5 ≤ g) es.length (es.flatMap evL) W v
 at' : W.heap[o + 1]? = some (.cells #[.int .i64 (a : Int)] 3 (0, 0))
 num : W.heap[w.heap.size + 1]? = some (.cells #[.int .i64 (m : Int)] 3 (0, 0))
 r8 : W.heap[w.heap.size + 1 + 1]? = some (.cells #[.slice none 0 0] 26 (0, 0))
 r9 : W.heap[w.heap.size + 1 + 1 + 1]? = some (.cells #[.int .i64 0] 3 (0, 0))
 r10 : W.heap[w.heap.size + 1 + 1 + 1 + 1]? = some (.cells #[.int .i64 0] 44 (0, 0))
 below : Below w.heap.size w W
 size : o + 5 ≤ W.heap.size
 wo : w.heap.size + 5 ≤ o
def ReadT (w : World) (o : Nat) (W : World) (b : Nat) : Prop := OutT o 26 W b ∨ b = o + 1 ∨ b = w.heap.size + 1 + 1 ∨ b = w.heap.size + 1 + 1 + 1 ∨ b = w.heap.size + 1 + 1 + 1 + 1
def ReadJ (w : World) (o m cpu : Nat) (b : Bs) (l : List Nat) (k : Nat) (W : World) : Prop :=
 ∃ (es : List Ev) (a f : Nat) (bk : Bs) (lk : List Nat) (v : Value), es.length = k ∧ ReadAt w o m es a W v ∧ (qcu (l.length + 1) b cpu l).drop k = qcu (f + 1) bk cpu lk ∧ lk.length < f + 1 ∧ k + lk.length ≤ l.length ∧ k < m ∧ a + lk.length ≤ l.length ∧
  zc cpu m b none l = joinE es a (zc cpu (m - k) bk es.getLast? lk)
structure ReadEnd (w : World) (o m cpu : Nat) (b : Bs) (l : List Nat) (er : Nat) (W : World) : Prop where
 r8 : W.heap[w.heap.size + 1 + 1]? = some (.cells #[.slice none 0 0] 26 (0, 0))
 r9 : W.heap[w.heap.size + 1 + 1 + 1]? = some (.cells #[.int .i64 0] 3 (0, 0))
 r10 : W.heap[w.heap.size + 1 + 1 + 1 + 1]? = some (.cells #[.int .i64 (er : Int)] 44 (0, 0))
 below : Below w.heap.size w W
 size : o + 5 ≤ W.heap.size
 said : zc cpu m b none l = ([], 0, er)
def qn6 (w : World) (o m cpu : Nat) (b : Bs) (l : List Nat) : Code → Nat → World → Prop
 | .exit 0, _, W => ∃ es a v, ReadAt w o m es a W v ∧ a ≤ l.length ∧ zc cpu m b none l = (es, a, 0)
 | .ret, _, W => ∃ er, ReadEnd w o m cpu b l er W
 | _, _, _ => False
theorem zi {B : Nat} {a w : World} (h : Below B a w) {b o : Nat} (hb : B ≤ b) (v : Value) : Below B a (w.setCell ⟨b, o, none⟩ v) := h.setCell (p := ⟨b, o, none⟩) hb v
theorem qn {w : World} {b o k : Nat} (h : k ≠ b) (v : Value) : (w.setCell ⟨b, o, none⟩ v).heap[k]? = w.heap[k]? := Below.heap_setCell w ⟨b, o, none⟩ v k h
section
variable {w : World} {o m cpu : Nat} {es : List Ev} {a : Nat} {W W' : World} {v : Value} {B : Nat} {S : List Nat}
theorem ReadAt.keep (h : ReadAt w o m es a W v) (hk : Keep B S W W') (hB : w.heap.size ≤ B) (hS : ∀ g ∈ S, o + 2 ≤ g ∧ g < o + 5) : ReadAt w o m es a W' v := by
 have hwo := h.wo
 have n1 : ∀ x, x < o + 2 → x ∉ S := fun x hx hm => by have := hS x hm; omega
 refine ⟨h.out.keep hk (n1 _ (by omega)) (fun g hg hm => by have := hS g hm; omega), hk.obj _ _ h.at' rfl (n1 _ (by omega)), hk.obj _ _ h.num rfl (n1 _ (by omega)), hk.obj _ _ h.r8 rfl (n1 _ (by omega)), hk.obj _ _ h.r9 rfl (n1 _ (by omega)), hk.obj _ _ h.r10 rfl (n1 _ (by omega)), h.below.trans (hk.below hB (fun k hk' => by have := hS k hk'; omega)), by have := hk.size; have := h.size; omega, hwo⟩
theorem ReadAt.tkeep (h : ReadAt w o m es a W v) (hk : Keep B S W W') (hS : ∀ g ∈ S, o + 2 ≤ g ∧ g < o + 5) : ∀ b, ReadT w o W' b → ReadT w o W b := fun b hb => by
 rcases hb with hb | hb
 ·exact .inl (h.out.tkeep hk (fun hm => by have := hS _ hm; omega) b hb)
 ·exact .inr hb
theorem ReadAt.tdatum (h : ReadAt w o m es a W v) : ∀ b, ReadT w o W b → ∃ x, W.heap[b]? = some x ∧ datum x = true := fun b hb => by
 rcases hb with hb | rfl | rfl | rfl | rfl
 ·exact h.out.tdatum b hb
 ·exact ⟨_, h.at', rfl⟩
 ·exact ⟨_, h.r8, rfl⟩
 ·exact ⟨_, h.r9, rfl⟩
 ·exact ⟨_, h.r10, rfl⟩
theorem ReadEnd.keep {b : Bs} {l : List Nat} {er : Nat} (h : ReadEnd w o m cpu b l er W) (hk : Keep B S W W') (hB : w.heap.size ≤ B) (hS : ∀ g ∈ S, w.heap.size + 5 ≤ g) : ReadEnd w o m cpu b l er W' := by
 have n1 : ∀ x, x < w.heap.size + 5 → x ∉ S := fun x hx hm => by have := hS x hm; omega
 exact ⟨hk.obj _ _ h.r8 rfl (n1 _ (by omega)), hk.obj _ _ h.r9 rfl (n1 _ (by omega)), hk.obj _ _ h.r10 rfl (n1 _ (by omega)), h.below.trans (hk.below hB (fun k hk' => by have := hS k hk'; omega)), by have := hk.size; have := h.size; omega, h.said⟩
theorem ReadAt.drew (h : ReadAt w o m es a W v) : ReadAt w o m es a W.drew v :=
 ⟨⟨h.out.box, h.out.row, h.out.good⟩, h.at', h.num, h.r8, h.r9, h.r10, h.below.drew, h.size, h.wo⟩
theorem ReadAt.chg (h : ReadAt w o m es a W v) (hk : Chg [] W W') : ReadAt w o m es a W' v := by
 have hz := h.below.size
 exact h.keep (B := w.heap.size) (S := []) (hk.keep hz) (Nat.le_refl _) (by simp)
def retW (w : World) (er : Nat) (W : World) : World :=
 ((W.setCell ⟨w.heap.size + 1 + 1, 0, none⟩ (.slice none 0 0)).setCell ⟨w.heap.size + 1 + 1 + 1, 0, none⟩ (.int .i64 0)).setCell ⟨w.heap.size + 1 + 1 + 1 + 1, 0, none⟩ (.int .i64 (er : Int))
theorem ReadAt.ret {b : Bs} {l : List Nat} {er : Nat} (h : ReadAt w o m es a W v) (hs : zc cpu m b none l = ([], 0, er)) :
  ChgT (ReadT w o) W (retW w er W) ∧ ReadEnd w o m cpu b l er (retW w er W) ∧ (∀ W4, Keep B S (retW w er W) W4 → (∀ g ∈ S, o + 2 ≤ g ∧ g < o + 5) → ∀ b, ReadT w o W4 b → ReadT w o (retW w er W) b) := by
 have hwo := h.wo
 have hsz := h.size
 have hc : Chg [w.heap.size + 1 + 1, w.heap.size + 1 + 1 + 1, w.heap.size + 1 + 1 + 1 + 1] W (retW w er W) := by
  unfold retW
  exact (((Chg.refl _ W).setCell (.inl (by simp)) _).setCell (.inl (by simp)) _).setCell (.inl (by simp)) _
 have hout : OutBox o 26 (o + 5) 24 11 (fun g => o + 5 ≤ g) es.length (es.flatMap evL) (retW w er W) v := h.out.chg hc (by simp; omega) (fun g hg => by have := h.out.good g hg; simp; omega)
 refine ⟨⟨hc.os, hc.tape, hc.output, hc.size, fun k hk hT => hc.block k hk (fun hm => hT ?_), fun k hT => ?_⟩, ⟨?_, ?_, ?_, ?_, ?_, hs⟩, fun W4 hk hS b hb => ?_⟩
 ·simp at hm
  rcases hm with rfl | rfl | rfl
  ·exact .inr (.inr (.inl rfl))
  ·exact .inr (.inr (.inr (.inl rfl)))
  ·exact .inr (.inr (.inr (.inr rfl)))
 ·rcases hT with hT | hT
  ·rcases (hout.tlist k).1 hT with rfl | hv
   ·exact .inl (.inl (.inl rfl))
   ·exact .inl (.inl ((h.out.tlist k).2 (.inr hv)))
  ·exact .inl (.inr hT)
 ·unfold retW
  rw [qn (by omega), qn (by omega)]
  exact qt h.r8 _
 ·unfold retW
  rw [qn (by omega)]
  exact qt (by rw [qn (by omega)]; exact h.r9) _
 ·unfold retW
  exact qt (by rw [qn (by omega), qn (by omega)]; exact h.r10) _
 ·unfold retW
  exact zi (zi (zi h.below (by omega) _) (by omega) _) (by omega) _
 ·have := hc.size; omega
 ·rcases hb with hb | hb
  ·exact .inl (hout.tkeep hk (fun hm => by have := hS _ hm; omega) b hb)
  ·exact .inr hb
def pushW (o : Nat) (V : Value) (a : Nat) (w1 : World) : World := (w1.setCell ⟨o, 0, none⟩ V).setCell ⟨o + 1, 0, none⟩ (.int .i64 (a : Int))
theorem ReadAt.push {e : Ev} {mm : Nat} {A' : Option Addr} {c' : Nat} {w0 w1 : World} (h : ReadAt w o m es a W v) (h0 : Chg [] W w0) (hg : w0.grownBy w1 v.ownBlock)
  (hown : w1.ownsRow (o + 5) 24 11 (.slice A' (es.length + 1) c') (es.length + 1) (es.flatMap evL ++ evL e)) (hb : (Value.slice A' (es.length + 1) c').ownBlock = v.ownBlock ∨ (Value.slice A' (es.length + 1) c').ownBlock = some w0.heap.size) :
  ReadAt w o m (es ++ [e]) (a + mm) (pushW o (.slice A' (es.length + 1) c') (a + mm) w1) (.slice A' (es.length + 1) c') ∧ ChgT (ReadT w o) W (pushW o (.slice A' (es.length + 1) c') (a + mm) w1) := by
 have hwo := h.wo
 have hsz := h.size
 have hsz0 := h0.size
 have hsz1 := hg.size
 have hvg := h.out.good
 have hne : v.ownBlock ≠ some o := fun e => by have := hvg _ e; omega
 have hst := h.out.store h0 hg hne hown hb (fun g hg => by omega)
 have hown2 := hown.lt
 have far : ∀ x y, x < o + 5 → x ≠ o → x ≠ o + 1 → W.heap[x]? = some y → (pushW o (.slice A' (es.length + 1) c') (a + mm) w1).heap[x]? = some y := fun x y h1 h2 h3 hy => by
  unfold pushW
  rw [qn h3, qn h2, hg.block x (by have := qah hy; omega) (fun e => by have := hvg x e.symm; omega)]
  exact h0.same hy (by simp)
 have hpw : (w1.setCell ⟨o, 0, none⟩ (.slice A' (es.length + 1) c')).heap.size = w1.heap.size := by simp [World.setCell]
 have hch : Chg [o + 1] (w1.setCell ⟨o, 0, none⟩ (.slice A' (es.length + 1) c')) (pushW o (.slice A' (es.length + 1) c') (a + mm) w1) := by
  unfold pushW; exact (Chg.refl _ _).setCell (.inl (by simp)) _
 have hout := hst.1.chg hch (by simp) (fun g hg' => by have := (hown2 g hg').1; simp; omega)
 have hv2 : ∀ g, (Value.slice A' (es.length + 1) c').ownBlock = some g → o + 5 ≤ g := fun g hg' => (hown2 g hg').1
 refine ⟨⟨⟨hout.box, ?_, hout.good⟩, ?_, far _ _ (by omega) (by omega) (by omega) h.num, far _ _ (by omega) (by omega) (by omega) h.r8, far _ _ (by omega) (by omega) (by omega) h.r9, far _ _ (by omega) (by omega) (by omega) h.r10, ?_, ?_, hwo⟩, ?_⟩
 ·have := hout.row
  rw [List.length_append, List.flatMap_append]
  simpa using this
 ·unfold pushW
  refine qt (x := .int .i64 (a : Int)) ?_ _
  rw [qn (by omega), hg.block (o + 1) (by omega) (fun e => by have := hvg _ e.symm; omega)]
  exact h0.same h.at' (by simp)
 ·have hb1 : Below w.heap.size w w0 := h.below.trans ((Chg.below h0).mono h.below.size)
  have hb2 := hb1.grown hg (by have := h.below.size; omega) (fun g hg' => by have := hvg g hg'; omega)
  unfold pushW
  exact zi (zi hb2 (by omega) _) (by omega) _
 ·unfold pushW; simp [World.setCell]; omega
 ·have hc := hst.2
  refine ⟨hch.os.trans hc.os, hch.tape.trans hc.tape, hch.output.trans hc.output, Nat.le_trans hc.size hch.size, fun k hk hT => ?_, fun k hT => ?_⟩
  ·rw [hch.block k (by have := hc.size; omega) (fun hm => hT (.inr (.inl (by simpa using hm))))]
   exact hc.block k hk (fun h' => hT (.inl h'))
  ·rcases hT with hT | hT
   ·rcases (hout.tlist k).1 hT with rfl | hv
    ·exact .inl (.inl (.inl rfl))
    ·rcases hc.own k ((hst.1.tlist k).2 (.inr hv)) with h1 | h1
     ·exact .inl (.inl h1)
     ·exact .inr h1
   ·exact .inl (.inr hT)
end
theorem qay {W w1 : World} {X : Obj} {row : Option Nat} (hg : (W.alloc X).drew.grownBy w1 row) {y : Nat} {obj : Obj} (hy : W.heap[y]? = some obj) (hne : row ≠ some y) : w1.heap[y]? = some obj :=
 (hg.block y (by have := qah hy; show y < (W.alloc X).heap.size; simp; omega) (fun e => hne e.symm)).trans ((Below.heap_alloc W X y (qah hy)).trans hy)
theorem qwb {W : World} {base size n : Nat} {e t : TypeId} {v : Value} {xs : List Value} {x : Nat} {C : Array Value} {fr : Nat × Nat} (h : W.ownsRow base e size v n xs) (hx : W.heap[x]? = some (.cells C t fr)) (ht : t ≠ e) : v.ownBlock ≠ some x := by
 intro he
 rcases h.2 with ⟨rfl, _⟩ | ⟨g, cap, cur, rfl, _, hg, _⟩
 ·cases he
 ·injection he with he
  have he' : g = x := he
  subst he'
  rw [hg] at hx
  injection hx with hx
  injection hx with _ h2 _
  exact ht h2.symm
theorem Rd.block (w : World) (cs : List Value) (t : TypeId) (sz : Nat) (hs : cs.length = sz) : Rd (w.alloc (.cells cs.toArray t)).drew (w.heap.size + 1) sz (some ⟨w.heap.size, 0, none⟩) 1 cs :=
 ⟨by omega, fun _ => ⟨_, rfl, by show w.heap.size < w.heap.size + 1; omega, fun j u hu => by
  rw [Addr.add_mid, Nat.zero_add, World.cell?_drew, World.cell?_alloc_new]
  simpa using hu⟩⟩
end Go.Proofs.YtnakabnmjnfpcaaGreatDoor
namespace Go.Proofs.YtnakabnmjnfpcaaGreatDoor
open Go.RowKit Go.Shelf
attribute [local go_sem] Oper.semAt_some
theorem qmw (b : Bs) (cpu : Nat) (A : Option Addr) (n c : Nat) (w : World) :
  Calls Tryz.prog 83 #[.agg b.cells, .int .u8 (cpu : Int), .slice A n c] w fun r w' => r = .returned (.func (.func 93) #[] #[.pointer (some ⟨w.heap.size, 0, none⟩), .pointer (some ⟨w.heap.size + 1, 0, none⟩), .pointer (some ⟨w.heap.size + 1 + 1, 0, none⟩)]) ∧
   w' = ((w.alloc (.cells b.cells 76)).alloc (.cells #[.int .u8 (cpu : Int)] 5)).alloc (.cells #[.slice A n c] 33) := by
 generalize b.cells = ds
 go_enter Tryz.func83, Tryz.ntmps83
 go_wp2
 go_ret
 exact ⟨rfl, rfl⟩
theorem qc9 {P : Program} {fn : Func} {t u v : Tmp} {t1 t2 t3 : TypeId} {tmps : Array Value} {w : World} {b1 b2 b3 : Nat} {x1 x2 x3 : Value} (h : fn.results = #[.cell t t1, .cell u t2, .cell v t3])
  (h1 : tmps.getD t undef = .pointer (some ⟨b1, 0, none⟩)) (h2 : tmps.getD u undef = .pointer (some ⟨b2, 0, none⟩)) (h3 : tmps.getD v undef = .pointer (some ⟨b3, 0, none⟩))
  (a1 : (isAgg t1).run P w = .ok false w) (a2 : (isAgg t2).run P w = .ok false w) (a3 : (isAgg t3).run P w = .ok false w)
  (c1 : w.cell? ⟨b1, 0, none⟩ = some x1) (c2 : w.cell? ⟨b2, 0, none⟩ = some x2) (c3 : w.cell? ⟨b3, 0, none⟩ = some x3) : (results fn tmps).run P w = .ok (.tuple #[x1, x2, x3]) w := by
 simp at h1 h2 h3
 simp [results, h, h1, h2, h3, a1, a2, a3, go_sem, c1, c2, c3]
structure ReadPost (w : World) (q : List Ev × Nat × Nat) (r : Ending) (w' : World) : Prop where
 ret : ∃ v, r = .returned (.tuple #[v, .int .i64 (q.2.1 : Int), .int .i64 (q.2.2 : Int)]) ∧ w'.ownsRow w.heap.size 24 11 v q.1.length (q.1.flatMap evL)
 below : Below w.heap.size w w'
def tk (q : Ev × Nat × Nat) : Array Value := #[.int .i64 q.1.seq, .int .i64 q.1.time, .int .u8 (q.1.cpu : Int), .int .u8 (q.1.kind : Int), .int .i64 q.1.task, .int .i64 q.1.group, .int .i64 q.1.to, .int .i64 q.1.weight, .int .i64 q.1.ticks, .int .u64 (q.1.mask : Int), .int .i64 q.1.got, .int .i64 (q.2.1 : Int)]
def ReadA (ds : Array Value) (cpu m : Nat) (A : Option Addr) (n c s o : Nat) (b : Bs) (l : List Nat) (k : Nat) (a' : Act) (W : World) : Prop :=
 ∃ x q, (qcu (l.length + 1) b cpu l)[k]? = some q ∧ W.heap[x]? = some (.cells (tk q) 131 (0, 0)) ∧ o + 5 ≤ x ∧ a' = { tmps := #[.agg ds, .int .u8 (cpu : Int), .int .i64 (m : Int), .slice A n c, .pointer (some ⟨s, 0, none⟩), undef, .pointer (some ⟨s + 1, 0, none⟩), undef, .pointer (some ⟨s + 1 + 1, 0, none⟩), .pointer (some ⟨s + 1 + 1 + 1, 0, none⟩), .pointer (some ⟨s + 1 + 1 + 1 + 1, 0, none⟩), .pointer (some ⟨o, 0, none⟩), .pointer (some ⟨o + 1, 0, none⟩), .pointer (some ⟨x, 0, none⟩), .int .i64 (q.2.2 : Int), .int .i64 (m : Int), .bool false, .agg ds, .bool true, .bool false, .int .i64 (m : Int), .bool false, .agg ds, .int .u8 (cpu : Int), .slice A n c, .func (.func 93) #[] #[.pointer (some ⟨o + 1 + 1, 0, none⟩), .pointer (some ⟨o + 1 + 1 + 1, 0, none⟩), .pointer (some ⟨o + 1 + 1 + 1 + 1, 0, none⟩)], .agg (tk q), .int .i64 (q.2.2 : Int), undef, undef, undef, undef, undef, undef, undef, undef, undef, undef, undef, undef, undef, undef, undef, undef, undef, undef, undef, undef, undef, undef, undef, undef, undef, undef, undef, undef, undef, undef, undef, undef, undef, undef], defers := [] }
set_option maxRecDepth 100000 in
set_option maxHeartbeats 2000000 in
theorem qre (b : Bs) (cpu : Nat) (hcpu : cpu < 256) (A : Option Addr) (n c m : Nat) (l : List Nat) (B : Nat) (w : World) (hL : Laid B w) (hB : B ≤ w.heap.size) (hr : Rd w w.heap.size 1 A n (l.map B8)) (hc : n ≤ c) (hl : ∀ b ∈ l, b < 256) (hn : n ≤ 200000000000000)
  (hrt : b.right = true) (hm : 0 < m) (hm2 : m ≤ 9223372036854775807) (hlim : m ≤ 1000000000000 ∨ l.length ≤ 1000000000000) :
  Calls Tryz.prog 66 #[.agg b.cells, .int .u8 (cpu : Int), .int .i64 (m : Int), .slice A n c] w (ReadPost w (zc cpu m b none l)) := by
 have hll : l.length ≤ 200000000000000 := by have := hr.len; simp at this; omega
 have HR := hide (fun W => qbd b W)
 rw [hrt] at HR
 have HB2 := hide (qax b)
 have HRE := hide (fun W => qmw b cpu A n c W)
 have hmn : decide ((m : Int) < 0) = false := by rw [decide_eq_false_iff_not]; omega
 have hm0 : ((m : Int) == 0) = false := by rw [beq_eq_false_iff_ne]; omega
 obtain ⟨W0, hW0⟩ : ∃ W0, W0 = ((((w.alloc (.cells b.cells 76)).alloc (.cells #[.int .i64 (m : Int)] 3)).alloc (.cells #[.slice none 0 0] 26)).alloc (.cells #[.int .i64 0] 3)).alloc (.cells #[.int .i64 0] 44) := ⟨_, rfl⟩
 have hs0 : W0.heap.size = w.heap.size + 5 := by rw [hW0]; simp
 have hb0 : Below w.heap.size w W0 := by rw [hW0]; exact (((((Below.refl _ _).alloc (Nat.le_refl _) _).alloc (by simp) _).alloc (by simp; omega) _).alloc (by simp; omega) _).alloc (by simp; omega) _
 have hx0 : W0.heap[w.heap.size]? = some (.cells b.cells 76) := by
  rw [hW0, Below.heap_alloc _ _ _ (by simp <;> omega), Below.heap_alloc _ _ _ (by simp <;> omega), Below.heap_alloc _ _ _ (by simp <;> omega), Below.heap_alloc _ _ _ (by simp)]; exact World.alloc_heap_new w _
 have hx1 : W0.heap[w.heap.size + 1]? = some (.cells #[.int .i64 (m : Int)] 3) := by
  rw [hW0, Below.heap_alloc _ _ _ (by simp <;> omega), Below.heap_alloc _ _ _ (by simp <;> omega), Below.heap_alloc _ _ _ (by simp)]
  have := World.alloc_heap_new (w.alloc (.cells b.cells 76)) (.cells #[.int .i64 (m : Int)] 3); rwa [World.size_alloc] at this
 have hx2 : W0.heap[w.heap.size + 1 + 1]? = some (.cells #[.slice none 0 0] 26) := by
  rw [hW0, Below.heap_alloc _ _ _ (by simp <;> omega), Below.heap_alloc _ _ _ (by simp)]
  have := World.alloc_heap_new ((w.alloc (.cells b.cells 76)).alloc (.cells #[.int .i64 (m : Int)] 3)) (.cells #[.slice none 0 0] 26); simpa only [World.size_alloc] using this
 have hx3 : W0.heap[w.heap.size + 1 + 1 + 1]? = some (.cells #[.int .i64 0] 3) := by
  rw [hW0, Below.heap_alloc _ _ _ (by simp)]
  have := World.alloc_heap_new (((w.alloc (.cells b.cells 76)).alloc (.cells #[.int .i64 (m : Int)] 3)).alloc (.cells #[.slice none 0 0] 26)) (.cells #[.int .i64 0] 3); simpa only [World.size_alloc] using this
 have hx4 : W0.heap[w.heap.size + 1 + 1 + 1 + 1]? = some (.cells #[.int .i64 0] 44) := by
  rw [hW0]
  have := World.alloc_heap_new ((((w.alloc (.cells b.cells 76)).alloc (.cells #[.int .i64 (m : Int)] 3)).alloc (.cells #[.slice none 0 0] 26)).alloc (.cells #[.int .i64 0] 3)) (.cells #[.int .i64 0] 44); simpa only [World.size_alloc] using this
 have HX0 := hide hx0
 have HX1 := hide hx1
 have HX2 := hide hx2
 have HX3 := hide hx3
 have HX4 := hide hx4
 have HD0 := hide (qd hx0)
 have HLX := hide hL
 have HRX := hide hr
 have k1 : W0.cell? ⟨w.heap.size + 1, 0, none⟩ = some (.int .i64 (m : Int)) := by simp [World.cell?, hx1]
 have hsz0 : w.heap.size + 5 ≤ W0.heap.size := by omega
 clear hx0 hx1 hx2 hx3 hx4 hs0 hL hr hrt
 have HDS0 : ∃ ds, Hid (b.cells = ds) := ⟨_, hide rfl⟩
 obtain ⟨ds, HDS⟩ := HDS0
 rw [HDS.out] at HR HB2 HRE hW0 HX0 HD0 ⊢
 refine callsIn_wide.1 (callsIn_of_wp_marks (n := 0) Tryz.func66 rfl trivial ?_ rfl)
 simp only [Tryz.ntmps66, List.size_toArray, List.length_cons, List.length_nil, Nat.reduceAdd, Nat.reduceSub, Array.replicate_succ, Array.replicate_zero, List.push_toArray, List.append_toArray, List.nil_append, List.cons_append]
 gi_wp2_with (first
  | (rw [← hW0]; clear hW0)
  | (with_reducible refine qjz HD0.out rfl rfl rfl si_bs HB2.out ?_)
  | (refine ⟨trivial, rfl, ?_⟩; refine (callsIn_wide.2 (HR.out _)).mono ?_; rintro r w2 ⟨rfl, hb2⟩; have hz2 := hb2.size; have k2 := (hb2.cell (p := ⟨w.heap.size + 1, 0, none⟩) (by show w.heap.size + 1 < _; omega)).trans k1; have HD2 := hide (fun o1 o2 => zb (((zb HD0.out hb2 (by omega)))) ((((Below.refl w2.heap.size w2).alloc (Nat.le_refl _) o1).alloc (by simp) o2)) (by omega)))
  | (with_reducible refine qjz (HD2.out _ _) rfl rfl rfl si_bs HB2.out ?_)
  | (refine ⟨trivial, rfl, ?_⟩; refine (callsIn_wide.2 (HRE.out _)).mono ?_; rintro r w3 ⟨rfl, rfl⟩))
 obtain ⟨W3, hW3⟩ : ∃ W3, W3 = ((((w2.alloc (.cells #[.slice none 0 0] 26)).alloc (.cells #[.int .i64 0] 3)).alloc (.cells ds 76)).alloc (.cells #[.int .u8 (cpu : Int)] 5)).alloc (.cells #[.slice A n c] 33) := ⟨_, rfl⟩
 rw [← hW3]
 have hs3 : W3.heap.size = w2.heap.size + 5 := by rw [hW3]; simp
 have hb3 : Below w2.heap.size w2 W3 := by rw [hW3]; exact (((((Below.refl _ _).alloc (Nat.le_refl _) _).alloc (by simp) _).alloc (by simp; omega) _).alloc (by simp; omega) _).alloc (by simp; omega) _
 have hB3 : Below w.heap.size w W3 := (hb0.trans (hb2.mono (by omega))).trans (hb3.mono (by omega))
 have old : ∀ (x : Nat) (y : Obj), x < W0.heap.size → W0.heap[x]? = some y → W3.heap[x]? = some y := fun x y hx hy => (hb3.block x (by omega)).trans ((hb2.block x hx).trans hy)
 have y0 : W3.heap[w2.heap.size]? = some (.cells #[.slice none 0 0] 26) := by
  rw [hW3, Below.heap_alloc _ _ _ (by simp <;> omega), Below.heap_alloc _ _ _ (by simp <;> omega), Below.heap_alloc _ _ _ (by simp <;> omega), Below.heap_alloc _ _ _ (by simp)]; exact World.alloc_heap_new w2 _
 have y1 : W3.heap[w2.heap.size + 1]? = some (.cells #[.int .i64 0] 3) := by
  rw [hW3, Below.heap_alloc _ _ _ (by simp <;> omega), Below.heap_alloc _ _ _ (by simp <;> omega), Below.heap_alloc _ _ _ (by simp)]
  have := World.alloc_heap_new (w2.alloc (.cells #[.slice none 0 0] 26)) (.cells #[.int .i64 0] 3); rwa [World.size_alloc] at this
 have y2 : W3.heap[w2.heap.size + 1 + 1]? = some (.cells ds 76) := by
  rw [hW3, Below.heap_alloc _ _ _ (by simp <;> omega), Below.heap_alloc _ _ _ (by simp)]
  have := World.alloc_heap_new ((w2.alloc (.cells #[.slice none 0 0] 26)).alloc (.cells #[.int .i64 0] 3)) (.cells ds 76); simpa only [World.size_alloc] using this
 have y3 : W3.heap[w2.heap.size + 1 + 1 + 1]? = some (.cells #[.int .u8 (cpu : Int)] 5) := by
  rw [hW3, Below.heap_alloc _ _ _ (by simp)]
  have := World.alloc_heap_new (((w2.alloc (.cells #[.slice none 0 0] 26)).alloc (.cells #[.int .i64 0] 3)).alloc (.cells ds 76)) (.cells #[.int .u8 (cpu : Int)] 5); simpa only [World.size_alloc] using this
 have y4 : W3.heap[w2.heap.size + 1 + 1 + 1 + 1]? = some (.cells #[.slice A n c] 33) := by
  rw [hW3]
  have := World.alloc_heap_new ((((w2.alloc (.cells #[.slice none 0 0] 26)).alloc (.cells #[.int .i64 0] 3)).alloc (.cells ds 76)).alloc (.cells #[.int .u8 (cpu : Int)] 5)) (.cells #[.slice A n c] 33); simpa only [World.size_alloc] using this
 have hrc : RecAt B w.heap.size (w2.heap.size + 1 + 1) (w2.heap.size + 1 + 1 + 1) (w2.heap.size + 1 + 1 + 1 + 1) cpu b l A n c W3 := ⟨by rw [HDS.out]; exact y2, y3, y4, HRX.out.below hB3, hc, hl, hn, HLX.out.below hB3 hB⟩
 have hra : ReadAt w w2.heap.size m [] 0 W3 (.slice none 0 0) := ⟨⟨y0, World.ownsRow_nil _ _ _ _, fun g hg => by cases hg⟩, y1, old _ _ (by omega) HX1.out, old _ _ (by omega) HX2.out, old _ _ (by omega) HX3.out, old _ _ (by omega) HX4.out, hB3, by omega, by omega⟩
 have hsS : ∀ g ∈ [w2.heap.size + 1 + 1, w2.heap.size + 1 + 1 + 1 + 1], w2.heap.size + 2 ≤ g ∧ g < w2.heap.size + 5 := by intro g hg; simp at hg; omega
 have hBW := hB3.size
 clear hW3 old y0 y1 y2 y3 y4
 refine qjw rfl (enters_of Tryz.func93 (by kernel_rfl) rfl) (qj4 B w.heap.size (w2.heap.size + 1 + 1) (w2.heap.size + 1 + 1 + 1) (w2.heap.size + 1 + 1 + 1 + 1) cpu hcpu b l A n c W3 (by omega) (by omega) (by omega) hB (by omega) (by omega) hrc) (by intro y hy; obtain ⟨p, _, rfl⟩ := List.mem_map.1 hy; rfl) (by intro g hg; have := hsS g hg; omega)
  (ReadT w w2.heap.size) (ReadJ w w2.heap.size m cpu b l) (qn6 w w2.heap.size m cpu b l) ?hJ ?hJx ?hJ0 ?hJx0 ?hTd ?hN ?h0 (ReadA ds cpu m A n c w.heap.size w2.heap.size b l) ?hA ?hassign ?hbody ?hdone ?hstop
 case hJ =>
  rintro k W W' ⟨es, a, f, bk, lk, v, h1, h2, h3⟩ hk
  exact ⟨⟨es, a, f, bk, lk, v, h1, h2.keep hk (by omega) hsS, h3⟩, h2.tkeep hk hsS⟩
 case hJx =>
  rintro c k W W' hj hk
  unfold qn6 at hj ⊢
  split at hj
  ·obtain ⟨es, a, v, h1, h2⟩ := hj
   exact ⟨es, a, v, h1.keep hk (by omega) hsS, h2⟩
  ·obtain ⟨er, h1⟩ := hj
   exact ⟨er, h1.keep hk (by omega) (fun g hg => by have := hsS g hg; omega)⟩
  ·exact hj.elim
 case hJ0 => rintro k W ⟨es, a, f, bk, lk, v, h1, h2, _⟩; have := h2.size; omega
 case hJx0 =>
  intro c k W hj
  unfold qn6 at hj
  split at hj
  ·obtain ⟨es, a, v, h1, h2⟩ := hj; have := h1.size; omega
  ·obtain ⟨er, h1⟩ := hj; have := h1.size; omega
  ·exact hj.elim
 case hTd => rintro k W b' ⟨es, a, f, bk, lk, v, h1, h2, _⟩ ht; exact h2.tdatum b' ht
 case hN =>
  rintro b' hb' ht
  rcases ht with ht | ht
  ·rcases (hra.out.tlist _).1 ht with h | h
   ·rcases hb' with h1 | h1 | h1 | h1 <;> omega
   ·cases h
  ·rcases hb' with h1 | h1 | h1 | h1 <;> omega
 case h0 => exact ⟨[], 0, l.length, b, l, _, rfl, hra, rfl, by omega, by omega, hm, by omega, by rw [qk8]; rfl⟩
 case hA =>
  rintro k a' W W' ⟨x, q, h1, h2, h3, h4⟩ hk
  exact ⟨x, q, h1, hk.obj _ _ h2 rfl (by simp), h3, h4⟩
 case hassign =>
  rintro l' k hk W ⟨es, a, f, bk, lk, v, h1, h2, _⟩
  have hz := h2.size
  simp only [List.getElem_map]
  have hp : (qcu (l.length + 1) b cpu l)[k]? = some ((qcu (l.length + 1) b cpu l)[k]'(by simpa using hk)) := List.getElem?_eq_getElem _
  generalize (qcu (l.length + 1) b cpu l)[k]'(by simpa using hk) = q at hp
  have HP := hide hp
  clear hp h1 h2 hk
  unfold encT
  gi_wp2
  exact ⟨(Chg.refl _ _).alloc _, W.heap.size, q, HP.out, World.alloc_heap_new W _, hz, rfl⟩
 case hbody =>
  rintro l' k a' W hk hl ⟨r0, hr0⟩ ⟨x, q, hq, hx, hxo, rfl⟩ ⟨es, a, f, bk, lk, v, hek, hra, hdr, hf, hkl, hkm, hal, hsp⟩
  have hqt : takeR bk cpu lk = q := by
   have h1 := congrArg (fun L => L[0]?) hdr
   simp only [List.getElem?_drop, Nat.add_zero] at h1
   rw [hq, qdm f bk cpu lk] at h1
   simpa using h1.symm
  have htl := qfp bk cpu lk
  rw [hqt] at htl
  have hdr2 : (qcu (l.length + 1) b cpu l).drop (k + 1) = if q.2.2 ≠ 0 then [] else qcu f q.1.at cpu (lk.drop q.2.1) := by
   rw [qdm f bk cpu lk, hqt] at hdr
   rw [← List.tail_drop, hdr]; rfl
  have hmk : m - k = (m - (k + 1)) + 1 := by omega
  rw [hmk] at hsp
  have hWz := hra.size
  obtain ⟨e, mm, er⟩ := q
  simp only at htl hdr2
  have HDR := hide hdr2
  have HSP := hide hsp
  have HQT := hide hqt
  have hek1 : es.length ≤ k ∧ k ≤ es.length := by omega
  have r8c : W.cell? ⟨w.heap.size + 1 + 1, 0, none⟩ = some (.slice none 0 0) := by simp [World.cell?, hra.r8]
  have r9c : W.cell? ⟨w.heap.size + 1 + 1 + 1, 0, none⟩ = some (.int .i64 0) := by simp [World.cell?, hra.r9]
  have r10c : W.cell? ⟨w.heap.size + 1 + 1 + 1 + 1, 0, none⟩ = some (.int .i64 0) := by simp [World.cell?, hra.r10]
  have r8f : ∀ i, W.frozen? ⟨w.heap.size + 1 + 1, i, none⟩ = false := fun i => by simp [World.frozen?, hra.r8]
  have r9f : ∀ i, W.frozen? ⟨w.heap.size + 1 + 1 + 1, i, none⟩ = false := fun i => by simp [World.frozen?, hra.r9]
  have r10f : ∀ i, W.frozen? ⟨w.heap.size + 1 + 1 + 1 + 1, i, none⟩ = false := fun i => by simp [World.frozen?, hra.r10]
  have HRA := hide hra
  have HX := hide hx
  have HRC := hide hrc
  clear hq hqt hdr hdr2 hsp hmk hx hra hrc hr0 hek hk
  by_cases hbad : er = 0
  ·subst hbad
   have HOW := hide HRA.out.out.row
   obtain ⟨A1, c1, rfl⟩ := qbh HOW.out
   have hkb : k ≤ 1000000000000 := by omega
   have o0 := HRA.out.out.cell
   have x0 : W.cell? ⟨x, 0, none⟩ = some (.int .i64 e.seq) := by simp [World.cell?, HX.out, tk]
   rcases List.eq_nil_or_concat es with hnil | ⟨es0, p, hcat⟩
   ·subst hnil
    simp only [List.length_nil] at o0
    gi_wp2
    refine qeb (S := fun w' => w'.cell? ⟨w2.heap.size, 0, none⟩ = some (.slice A1 0 c1)) (by kernel_rfl) (by kernel_rfl) (by rintro ⟨_, _, h⟩; exact h) o0 (fun hH => ?_)
    refine wpAnyH_take (i := 0) (v := .slice A1 0 c1) rfl (by kernel_rfl) (by kernel_rfl) (by kernel_rfl) (fun _ _ _ h => h) (Or.inl ⟨by rfl, fun WW hW => by (skip; simp only [List.getElem_toArray, List.getElem_cons_zero]; go_simp)⟩) hH ?_
    simp only [List.getElem_toArray, List.getElem_cons_zero, Act.put, List.setIfInBounds_toArray, List.set_cons_zero, List.set_cons_succ]
    refine wpAnyH_take (i := 1) (v := .int .i64 0) rfl (by kernel_rfl) (by kernel_rfl) (by kernel_rfl) (fun _ _ _ h => h) (Or.inl ⟨by rfl, fun WW hW => by (skip; simp only [List.getElem_toArray, List.getElem_cons_zero, List.getElem_cons_succ]; go_simp)⟩) hH ?_
    simp only [List.getElem_toArray, List.getElem_cons_zero, List.getElem_cons_succ, Act.put, List.setIfInBounds_toArray, List.set_cons_zero, List.set_cons_succ]
    refine wpAnyH_take (i := 2) (v := .bool false) rfl (by kernel_rfl) (by kernel_rfl) (by kernel_rfl) (fun _ _ _ h => h) (Or.inl ⟨by rfl, fun WW hW => by (skip; simp only [List.getElem_toArray, List.getElem_cons_zero, List.getElem_cons_succ]; go_simp)⟩) hH ?_
    simp only [List.getElem_toArray, List.getElem_cons_zero, List.getElem_cons_succ, Act.put, List.setIfInBounds_toArray, List.set_cons_zero, List.set_cons_succ]
    refine wpAnyH_take (i := 3) (v := .bool false) rfl (by kernel_rfl) (by kernel_rfl) (by kernel_rfl) (fun _ _ _ h => h) (Or.inl ⟨by rfl, fun WW hW => by (skip; simp only [List.getElem_toArray, List.getElem_cons_zero, List.getElem_cons_succ]; go_simp)⟩) hH ?_
    simp only [List.getElem_toArray, List.getElem_cons_zero, List.getElem_cons_succ, Act.put, List.setIfInBounds_toArray, List.set_cons_zero, List.set_cons_succ]
    refine wpAnyH_take (i := 4) rfl (by kernel_rfl) (by kernel_rfl) (by kernel_rfl) (fun _ _ _ h => h) (Or.inr ⟨by rfl, rfl⟩) hH ?_
    simp only [List.getElem_toArray, List.getElem_cons_zero, List.getElem_cons_succ, Act.put, List.setIfInBounds_toArray, List.set_cons_zero, List.set_cons_succ]
    refine wpAnyH_take (i := 5) rfl (by kernel_rfl) (by kernel_rfl) (by kernel_rfl) (fun _ _ _ h => h) (Or.inr ⟨by rfl, rfl⟩) hH ?_
    simp only [List.getElem_toArray, List.getElem_cons_zero, List.getElem_cons_succ, Act.put, List.setIfInBounds_toArray, List.set_cons_zero, List.set_cons_succ]
    refine wpAnyH_take (i := 6) rfl (by kernel_rfl) (by kernel_rfl) (by kernel_rfl) (fun _ _ _ h => h) (Or.inr ⟨by rfl, rfl⟩) hH ?_
    simp only [List.getElem_toArray, List.getElem_cons_zero, List.getElem_cons_succ, Act.put, List.setIfInBounds_toArray, List.set_cons_zero, List.set_cons_succ]
    refine wpAnyH_take (i := 7) rfl (by kernel_rfl) (by kernel_rfl) (by kernel_rfl) (fun _ _ _ h => h) (Or.inr ⟨by rfl, rfl⟩) hH ?_
    simp only [List.getElem_toArray, List.getElem_cons_zero, List.getElem_cons_succ, Act.put, List.setIfInBounds_toArray, List.set_cons_zero, List.set_cons_succ]
    refine wpAnyH_take (i := 8) rfl (by kernel_rfl) (by kernel_rfl) (by kernel_rfl) (fun _ _ _ h => h) (Or.inr ⟨by rfl, rfl⟩) hH ?_
    simp only [List.getElem_toArray, List.getElem_cons_zero, List.getElem_cons_succ, Act.put, List.setIfInBounds_toArray, List.set_cons_zero, List.set_cons_succ]
    refine wpAnyH_take (i := 9) rfl (by kernel_rfl) (by kernel_rfl) (by kernel_rfl) (fun _ _ _ h => h) (Or.inr ⟨by rfl, rfl⟩) hH ?_
    simp only [List.getElem_toArray, List.getElem_cons_zero, List.getElem_cons_succ, Act.put, List.setIfInBounds_toArray, List.set_cons_zero, List.set_cons_succ]
    refine wpAnyH_take (i := 10) rfl (by kernel_rfl) (by kernel_rfl) (by kernel_rfl) (fun _ _ _ h => h) (Or.inr ⟨by rfl, rfl⟩) hH ?_
    simp only [List.getElem_toArray, List.getElem_cons_zero, List.getElem_cons_succ, Act.put, List.setIfInBounds_toArray, List.set_cons_zero, List.set_cons_succ]
    refine wpAnyH_take (i := 11) rfl (by kernel_rfl) (by kernel_rfl) (by kernel_rfl) (fun _ _ _ h => h) (Or.inr ⟨by rfl, rfl⟩) hH ?_
    simp only [List.getElem_toArray, List.getElem_cons_zero, List.getElem_cons_succ, Act.put, List.setIfInBounds_toArray, List.set_cons_zero, List.set_cons_succ]
    refine wpAnyH_take (i := 12) rfl (by kernel_rfl) (by kernel_rfl) (by kernel_rfl) (fun _ _ _ h => h) (Or.inr ⟨by rfl, rfl⟩) hH ?_
    simp only [List.getElem_toArray, List.getElem_cons_zero, List.getElem_cons_succ, Act.put, List.setIfInBounds_toArray, List.set_cons_zero, List.set_cons_succ]
    refine wpAnyH_take (i := 13) rfl (by kernel_rfl) (by kernel_rfl) (by kernel_rfl) (fun _ _ _ h => h) (Or.inr ⟨by rfl, rfl⟩) hH ?_
    simp only [List.getElem_toArray, List.getElem_cons_zero, List.getElem_cons_succ, Act.put, List.setIfInBounds_toArray, List.set_cons_zero, List.set_cons_succ]
    refine wpAnyH_take (i := 14) rfl (by kernel_rfl) (by kernel_rfl) (by kernel_rfl) (fun _ _ _ h => h) (Or.inr ⟨by rfl, rfl⟩) hH ?_
    simp only [List.getElem_toArray, List.getElem_cons_zero, List.getElem_cons_succ, Act.put, List.setIfInBounds_toArray, List.set_cons_zero, List.set_cons_succ]
    refine wpAnyH_take (i := 15) (v := .bool false) rfl (by kernel_rfl) (by kernel_rfl) (by kernel_rfl) (fun _ _ _ h => h) (Or.inl ⟨by rfl, fun WW hW => by (skip; simp only [List.getElem_toArray, List.getElem_cons_zero, List.getElem_cons_succ]; go_simp)⟩) hH ?_
    simp only [List.getElem_toArray, List.getElem_cons_zero, List.getElem_cons_succ, Act.put, List.setIfInBounds_toArray, List.set_cons_zero, List.set_cons_succ]
    refine wpAnyH_done (by kernel_rfl) ?_ _
    simp only [List.length_nil] at hek1
    have hrow := HOW.out
    have HNO := hide (show (Value.slice A1 0 c1).ownBlock ≠ some w2.heap.size from fun h => by have := (hrow.lt _ h).1; omega)
    have HNA := hide (show (Value.slice A1 0 c1).ownBlock ≠ some (w2.heap.size + 1) from fun h => by have := (hrow.lt _ h).1; omega)
    have HNN := hide (show (Value.slice A1 0 c1).ownBlock ≠ some (w.heap.size + 1) from fun h => by have := (hrow.lt _ h).1; omega)
    have HNX := hide (qwb hrow HX.out (by decide))
    have HOW2 := hide (fun X => (show (W.alloc X).drew.ownsRow (w2.heap.size + 5) 24 11 (.slice A1 0 c1) 0 ((([] : List Ev)).flatMap evL) from (hrow.alloc X).drew))
    have hx11 := (qe8 (qd (show W.heap[x]? = _ from HX.out) |> fun h => qi0 (cs := e.cells.toList) (ds := [.int .i64 (mm : Int)]) h))
    obtain ⟨v0, v1, v2, v3, v4, v5, v6, v7, v8, v9, v10⟩ := hx11
    have n1 : x ≠ w2.heap.size := by omega
    have n2 : x ≠ w2.heap.size + 1 := by omega
    have n3 : w.heap.size + 1 ≠ w2.heap.size := by omega
    have n4 : w.heap.size + 1 ≠ w2.heap.size + 1 := by omega
    have n1' : ¬ w2.heap.size = x := by omega
    have n2' : ¬ w2.heap.size + 1 = x := by omega
    have n3' : ¬ w2.heap.size = w.heap.size + 1 := by omega
    have n4' : ¬ w2.heap.size = w.heap.size := by omega
    have HPU := hide (show ∀ A2 c2 w1, w1.ownsRow (w2.heap.size + 5) 24 11 (.slice A2 (0 + 1) c2) (0 + 1) ((([] : List Ev)).flatMap evL ++ evL e) → (W.alloc (.cells #[.int .i64 e.seq, .int .i64 e.time, .int .u8 (e.cpu : Int), .int .u8 (e.kind : Int), .int .i64 e.task, .int .i64 e.group, .int .i64 e.to, .int .i64 e.weight, .int .i64 e.ticks, .int .u64 (e.mask : Int), .int .i64 e.got] 24)).drew.grownBy w1 (Value.slice A1 0 c1).ownBlock → ((Value.slice A2 (0 + 1) c2).ownBlock = (Value.slice A1 0 c1).ownBlock ∨ (Value.slice A2 (0 + 1) c2).ownBlock = some (W.alloc (.cells #[.int .i64 e.seq, .int .i64 e.time, .int .u8 (e.cpu : Int), .int .u8 (e.kind : Int), .int .i64 e.task, .int .i64 e.group, .int .i64 e.to, .int .i64 e.weight, .int .i64 e.ticks, .int .u64 (e.mask : Int), .int .i64 e.got] 24)).drew.heap.size) → ReadAt w w2.heap.size m ((([] : List Ev)) ++ [e]) (a + mm) ((w1.setCell ⟨w2.heap.size, 0, none⟩ (.slice A2 (0 + 1) c2)).setCell ⟨w2.heap.size + 1, 0, none⟩ (.int .i64 ((a : Int) + (mm : Int)))) (.slice A2 (0 + 1) c2) ∧ ChgT (ReadT w w2.heap.size) W ((w1.setCell ⟨w2.heap.size, 0, none⟩ (.slice A2 (0 + 1) c2)).setCell ⟨w2.heap.size + 1, 0, none⟩ (.int .i64 ((a : Int) + (mm : Int)))) from fun A2 c2 w1 a1 a2 a3 => by
     have h := HRA.out.push (e := e) (mm := mm) (A' := A2) (c' := c2) ((Chg.refl [] W).alloc (.cells #[.int .i64 e.seq, .int .i64 e.time, .int .u8 (e.cpu : Int), .int .u8 (e.kind : Int), .int .i64 e.task, .int .i64 e.group, .int .i64 e.to, .int .i64 e.weight, .int .i64 e.ticks, .int .u64 (e.mask : Int), .int .i64 e.got] 24)).drew a2 (a1) (a3)
     unfold pushW at h
     rw [Int.natCast_add] at h
     exact h)
    have hpush := HPU.out
    have HSAID := hide (show zc cpu m b none l = joinE ([] ++ [e]) (a + mm) (zc cpu (m - (k + 1)) e.at (some e) (lk.drop mm)) by rw [HSP.out]; exact qgj HQT.out rfl [] a)
    by_cases hend : k + 1 = m
    ·have hEB : ((1 : Int) == (m : Int)) = true := by rw [beq_iff_eq]; omega
     have HEND := hide hend
     clear hend
     gi_wp2_with (gi_at_builtin; refine qd6 rfl rfl ei_ev (HOW2.out _) rfl (Rd.block W (evL e) _ 11 rfl) rfl (zn e) (by omega) (by omega) (by show w2.heap.size + 5 ≤ (W.alloc _).heap.size; simp; omega) ?_; intro A2 c2 w1 hown1 hgr1 hbl1; obtain ⟨hc1, hf1⟩ := HRA.out.out.later ((Chg.refl [] W).alloc (.cells #[.int .i64 e.seq, .int .i64 e.time, .int .u8 (e.cpu : Int), .int .u8 (e.kind : Int), .int .i64 e.task, .int .i64 e.group, .int .i64 e.to, .int .i64 e.weight, .int .i64 e.ticks, .int .u64 (e.mask : Int), .int .i64 e.got] 24)).drew hgr1 HNO.out; have hA1 := qay hgr1 HRA.out.at' HNA.out; have hN1 := qay hgr1 HRA.out.num HNN.out; have hX1 := qay hgr1 HX.out HNX.out; have u0 : w1.cell? ⟨w2.heap.size + 1, 0, none⟩ = some (.int .i64 (a : Int)) := by { simp [World.cell?, hA1] }; have u1 : ∀ i, w1.frozen? ⟨w2.heap.size + 1, i, none⟩ = false := fun i => by { simp [World.frozen?, hA1] }; have u2 : w1.cell? ⟨w.heap.size + 1, 0, none⟩ = some (.int .i64 (m : Int)) := by { simp [World.cell?, hN1] }; have u3 : w1.cell? ⟨x, 11, none⟩ = some (.int .i64 (mm : Int)) := by { simp [World.cell?, hX1, tk] }; have HU := hide (And.intro hA1 (And.intro hN1 hX1)); clear hA1 hN1 hX1)
     have hp := hpush A2 c2 w1 hown1 hgr1 hbl1
     exact ⟨hp.2, ⟨_, _, _, hp.1, by omega, by rw [HSAID.out, show m - (k + 1) = 0 by have := HEND.out; omega]; unfold joinE; simp [zc]⟩, fun W4 hk4 => hp.1.tkeep hk4 hsS⟩
    ·have hEB : ((1 : Int) == (m : Int)) = false := by rw [beq_eq_false_iff_ne]; omega
     gi_wp2_with (gi_at_builtin; refine qd6 rfl rfl ei_ev (HOW2.out _) rfl (Rd.block W (evL e) _ 11 rfl) rfl (zn e) (by omega) (by omega) (by show w2.heap.size + 5 ≤ (W.alloc _).heap.size; simp; omega) ?_; intro A2 c2 w1 hown1 hgr1 hbl1; obtain ⟨hc1, hf1⟩ := HRA.out.out.later ((Chg.refl [] W).alloc (.cells #[.int .i64 e.seq, .int .i64 e.time, .int .u8 (e.cpu : Int), .int .u8 (e.kind : Int), .int .i64 e.task, .int .i64 e.group, .int .i64 e.to, .int .i64 e.weight, .int .i64 e.ticks, .int .u64 (e.mask : Int), .int .i64 e.got] 24)).drew hgr1 HNO.out; have hA1 := qay hgr1 HRA.out.at' HNA.out; have hN1 := qay hgr1 HRA.out.num HNN.out; have hX1 := qay hgr1 HX.out HNX.out; have u0 : w1.cell? ⟨w2.heap.size + 1, 0, none⟩ = some (.int .i64 (a : Int)) := by { simp [World.cell?, hA1] }; have u1 : ∀ i, w1.frozen? ⟨w2.heap.size + 1, i, none⟩ = false := fun i => by { simp [World.frozen?, hA1] }; have u2 : w1.cell? ⟨w.heap.size + 1, 0, none⟩ = some (.int .i64 (m : Int)) := by { simp [World.cell?, hN1] }; have u3 : w1.cell? ⟨x, 11, none⟩ = some (.int .i64 (mm : Int)) := by { simp [World.cell?, hX1, tk] }; have HU := hide (And.intro hA1 (And.intro hN1 hX1)); clear hA1 hN1 hX1)
     have hp := hpush A2 c2 w1 hown1 hgr1 hbl1
     obtain ⟨f', rfl⟩ : ∃ f', f = f' + 1 := ⟨f - 1, by have := htl.2 trivial; omega⟩
     exact ⟨hp.2, _, _, f', e.at, lk.drop mm, _, by simp; omega, hp.1, by rw [HDR.out]; rfl, by rw [List.length_drop]; have := htl.2 trivial; omega, by rw [List.length_drop]; have := htl.2 trivial; omega, by omega, by rw [List.length_drop]; omega, by rw [HSAID.out]; simp⟩
   ·have hcat' : es = es0 ++ [p] := by simpa using hcat
    have hrow0 := HOW.out
    obtain ⟨g, cg, hgv, hgb, hgl⟩ := hrow0.form (by rw [hcat']; simp)
    have hel : es.length = es0.length + 1 := by rw [hcat']; simp
    have hpc : W.cell? ⟨g, es0.length * 11, none⟩ = some (.int .i64 p.seq) := by
     rw [hgv] at hrow0
     rw [hrow0.cellAt (es0.length * 11) (by omega), hcat', List.flatMap_append]
     rw [List.getElem?_append_right (by rw [qbi evL 11 zf]; omega), qbi evL 11 zf, Nat.sub_self]
     rfl
    have hlast : es.getLast? = some p := by rw [hcat']; simp
    injection hgv with hgA hgn hgc
    subst hgA
    subst hgc
    generalize hN : es0.length = N at *
    rw [hel] at o0
    have hek2 : N + 1 ≤ k ∧ k ≤ N + 1 := by omega
    have HCAT := hide hcat'
    have HEL := hide hel
    have HN := hide hN
    rw [hlast] at HSP
    have hni : (0 : Int) < (N : Int) + 1 := by omega
    have hwn : IntKind.i64.wrap (N : Int) = (N : Int) := IntWalk.i64_in _ (by omega)
    have hwn2 : IntKind.i64.wrap ((N : Int) + 1 - 1) = (N : Int) := by rw [Int.add_sub_cancel]; exact hwn
    have hnl : (N : Int) < (N : Int) + 1 := by omega
    have p0 := hpc
    clear hcat hcat' hel hN hlast hpc hgn hrow0
    by_cases hsq : e.seq = p.seq
    ·have hsb : (e.seq == p.seq) = true := by rw [beq_iff_eq]; exact hsq
     have HSQ := hide hsq
     clear hsq
     gi_wp2
     refine qeb (S := fun w' => w'.cell? ⟨w2.heap.size, 0, none⟩ = some (.slice (some ⟨g, 0, none⟩) (N + 1) c1) ∧ w'.cell? ⟨x, 0, none⟩ = some (.int .i64 e.seq) ∧ w'.cell? ⟨g, N * 11, none⟩ = some (.int .i64 p.seq)) (by kernel_rfl) (by kernel_rfl) (by rintro ⟨_, _, h⟩; exact h) ⟨o0, x0, p0⟩ (fun hH => ?_)
     refine wpAnyH_take (i := 0) (v := .slice (some ⟨g, 0, none⟩) (N + 1) c1) rfl (by kernel_rfl) (by kernel_rfl) (by kernel_rfl) (fun _ _ _ h => h) (Or.inl ⟨by rfl, fun WW hW => by (obtain ⟨hW1, hW2, hW3⟩ := hW; simp only [List.getElem_toArray, List.getElem_cons_zero]; go_simp)⟩) hH ?_
     simp only [List.getElem_toArray, List.getElem_cons_zero, Act.put, List.setIfInBounds_toArray, List.set_cons_zero, List.set_cons_succ]
     refine wpAnyH_take (i := 1) (v := .int .i64 ((N : Int) + 1)) rfl (by kernel_rfl) (by kernel_rfl) (by kernel_rfl) (fun _ _ _ h => h) (Or.inl ⟨by rfl, fun WW hW => by (skip; simp only [List.getElem_toArray, List.getElem_cons_zero, List.getElem_cons_succ]; go_simp)⟩) hH ?_
     simp only [List.getElem_toArray, List.getElem_cons_zero, List.getElem_cons_succ, Act.put, List.setIfInBounds_toArray, List.set_cons_zero, List.set_cons_succ]
     refine wpAnyH_take (i := 2) (v := .bool true) rfl (by kernel_rfl) (by kernel_rfl) (by kernel_rfl) (fun _ _ _ h => h) (Or.inl ⟨by rfl, fun WW hW => by (skip; simp only [List.getElem_toArray, List.getElem_cons_zero, List.getElem_cons_succ]; go_simp)⟩) hH ?_
     simp only [List.getElem_toArray, List.getElem_cons_zero, List.getElem_cons_succ, Act.put, List.setIfInBounds_toArray, List.set_cons_zero, List.set_cons_succ]
     refine wpAnyH_take (i := 3) (v := .bool true) rfl (by kernel_rfl) (by kernel_rfl) (by kernel_rfl) (fun _ _ _ h => h) (Or.inl ⟨by rfl, fun WW hW => by (skip; simp only [List.getElem_toArray, List.getElem_cons_zero, List.getElem_cons_succ]; go_simp)⟩) hH ?_
     simp only [List.getElem_toArray, List.getElem_cons_zero, List.getElem_cons_succ, Act.put, List.setIfInBounds_toArray, List.set_cons_zero, List.set_cons_succ]
     refine wpAnyH_take (i := 4) (v := .pointer (some ⟨x, 0, none⟩)) rfl (by kernel_rfl) (by kernel_rfl) (by kernel_rfl) (fun _ _ _ h => h) (Or.inl ⟨by rfl, fun WW hW => by (skip; simp only [List.getElem_toArray, List.getElem_cons_zero, List.getElem_cons_succ]; go_simp)⟩) hH ?_
     simp only [List.getElem_toArray, List.getElem_cons_zero, List.getElem_cons_succ, Act.put, List.setIfInBounds_toArray, List.set_cons_zero, List.set_cons_succ]
     refine wpAnyH_take (i := 5) (v := .pointer (some ⟨x, 0, none⟩)) rfl (by kernel_rfl) (by kernel_rfl) (by kernel_rfl) (fun _ _ _ h => h) (Or.inl ⟨by rfl, fun WW hW => by (skip; simp only [List.getElem_toArray, List.getElem_cons_zero, List.getElem_cons_succ]; go_simp)⟩) hH ?_
     simp only [List.getElem_toArray, List.getElem_cons_zero, List.getElem_cons_succ, Act.put, List.setIfInBounds_toArray, List.set_cons_zero, List.set_cons_succ]
     refine wpAnyH_take (i := 6) (v := .int .i64 e.seq) rfl (by kernel_rfl) (by kernel_rfl) (by kernel_rfl) (fun _ _ _ h => h) (Or.inl ⟨by rfl, fun WW hW => by (obtain ⟨hW1, hW2, hW3⟩ := hW; simp only [List.getElem_toArray, List.getElem_cons_zero, List.getElem_cons_succ]; go_simp)⟩) hH ?_
     simp only [List.getElem_toArray, List.getElem_cons_zero, List.getElem_cons_succ, Act.put, List.setIfInBounds_toArray, List.set_cons_zero, List.set_cons_succ]
     refine wpAnyH_take (i := 7) (v := .slice (some ⟨g, 0, none⟩) (N + 1) c1) rfl (by kernel_rfl) (by kernel_rfl) (by kernel_rfl) (fun _ _ _ h => h) (Or.inl ⟨by rfl, fun WW hW => by (obtain ⟨hW1, hW2, hW3⟩ := hW; simp only [List.getElem_toArray, List.getElem_cons_zero, List.getElem_cons_succ]; go_simp)⟩) hH ?_
     simp only [List.getElem_toArray, List.getElem_cons_zero, List.getElem_cons_succ, Act.put, List.setIfInBounds_toArray, List.set_cons_zero, List.set_cons_succ]
     refine wpAnyH_take (i := 8) (v := .slice (some ⟨g, 0, none⟩) (N + 1) c1) rfl (by kernel_rfl) (by kernel_rfl) (by kernel_rfl) (fun _ _ _ h => h) (Or.inl ⟨by rfl, fun WW hW => by (obtain ⟨hW1, hW2, hW3⟩ := hW; simp only [List.getElem_toArray, List.getElem_cons_zero, List.getElem_cons_succ]; go_simp)⟩) hH ?_
     simp only [List.getElem_toArray, List.getElem_cons_zero, List.getElem_cons_succ, Act.put, List.setIfInBounds_toArray, List.set_cons_zero, List.set_cons_succ]
     refine wpAnyH_take (i := 9) (v := .int .i64 ((N : Int) + 1)) rfl (by kernel_rfl) (by kernel_rfl) (by kernel_rfl) (fun _ _ _ h => h) (Or.inl ⟨by rfl, fun WW hW => by (skip; simp only [List.getElem_toArray, List.getElem_cons_zero, List.getElem_cons_succ]; go_simp)⟩) hH ?_
     simp only [List.getElem_toArray, List.getElem_cons_zero, List.getElem_cons_succ, Act.put, List.setIfInBounds_toArray, List.set_cons_zero, List.set_cons_succ]
     refine wpAnyH_take (i := 10) (v := .int .i64 (N : Int)) rfl (by kernel_rfl) (by kernel_rfl) (by kernel_rfl) (fun _ _ _ h => h) (Or.inl ⟨by rfl, fun WW hW => by (skip; simp only [List.getElem_toArray, List.getElem_cons_zero, List.getElem_cons_succ]; go_simp)⟩) hH ?_
     simp only [List.getElem_toArray, List.getElem_cons_zero, List.getElem_cons_succ, Act.put, List.setIfInBounds_toArray, List.set_cons_zero, List.set_cons_succ]
     refine wpAnyH_take (i := 11) (v := .pointer (some ⟨g, N * 11, none⟩)) rfl (by kernel_rfl) (by kernel_rfl) (by kernel_rfl) (fun _ _ _ h => h) (Or.inl ⟨by rfl, fun WW hW => by (skip; simp only [List.getElem_toArray, List.getElem_cons_zero, List.getElem_cons_succ]; go_simp)⟩) hH ?_
     simp only [List.getElem_toArray, List.getElem_cons_zero, List.getElem_cons_succ, Act.put, List.setIfInBounds_toArray, List.set_cons_zero, List.set_cons_succ]
     refine wpAnyH_take (i := 12) (v := .pointer (some ⟨g, N * 11, none⟩)) rfl (by kernel_rfl) (by kernel_rfl) (by kernel_rfl) (fun _ _ _ h => h) (Or.inl ⟨by rfl, fun WW hW => by (skip; simp only [List.getElem_toArray, List.getElem_cons_zero, List.getElem_cons_succ]; go_simp)⟩) hH ?_
     simp only [List.getElem_toArray, List.getElem_cons_zero, List.getElem_cons_succ, Act.put, List.setIfInBounds_toArray, List.set_cons_zero, List.set_cons_succ]
     refine wpAnyH_take (i := 13) (v := .int .i64 p.seq) rfl (by kernel_rfl) (by kernel_rfl) (by kernel_rfl) (fun _ _ _ h => h) (Or.inl ⟨by rfl, fun WW hW => by (obtain ⟨hW1, hW2, hW3⟩ := hW; simp only [List.getElem_toArray, List.getElem_cons_zero, List.getElem_cons_succ]; go_simp)⟩) hH ?_
     simp only [List.getElem_toArray, List.getElem_cons_zero, List.getElem_cons_succ, Act.put, List.setIfInBounds_toArray, List.set_cons_zero, List.set_cons_succ]
     refine wpAnyH_take (i := 14) (v := .bool true) rfl (by kernel_rfl) (by kernel_rfl) (by kernel_rfl) (fun _ _ _ h => h) (Or.inl ⟨by rfl, fun WW hW => by (skip; simp only [List.getElem_toArray, List.getElem_cons_zero, List.getElem_cons_succ]; go_simp)⟩) hH ?_
     simp only [List.getElem_toArray, List.getElem_cons_zero, List.getElem_cons_succ, Act.put, List.setIfInBounds_toArray, List.set_cons_zero, List.set_cons_succ]
     refine wpAnyH_take (i := 15) (v := .bool true) rfl (by kernel_rfl) (by kernel_rfl) (by kernel_rfl) (fun _ _ _ h => h) (Or.inl ⟨by rfl, fun WW hW => by (skip; simp only [List.getElem_toArray, List.getElem_cons_zero, List.getElem_cons_succ]; go_simp)⟩) hH ?_
     simp only [List.getElem_toArray, List.getElem_cons_zero, List.getElem_cons_succ, Act.put, List.setIfInBounds_toArray, List.set_cons_zero, List.set_cons_succ]
     refine wpAnyH_done (by kernel_rfl) ?_ _
     gi_wp2
     have h := HRA.out.drew.ret (S := [w2.heap.size + 1 + 1, w2.heap.size + 1 + 1 + 1 + 1]) (B := W3.heap.size) (b := b) (l := l) (er := 71) (m := m) (cpu := cpu) (by rw [HSP.out]; exact qi2 HQT.out (by simp [HSQ.out]) es a)
     exact ⟨⟨h.1.os, h.1.tape, h.1.output, h.1.size, h.1.block, h.1.own⟩, ⟨71, h.2.1⟩, fun W4 hk4 => h.2.2 W4 hk4 hsS⟩
    ·have hsb : (e.seq == p.seq) = false := by rw [beq_eq_false_iff_ne]; exact hsq
     have HSQ := hide hsq
     clear hsq
     gi_wp2
     refine qeb (S := fun w' => w'.cell? ⟨w2.heap.size, 0, none⟩ = some (.slice (some ⟨g, 0, none⟩) (N + 1) c1) ∧ w'.cell? ⟨x, 0, none⟩ = some (.int .i64 e.seq) ∧ w'.cell? ⟨g, N * 11, none⟩ = some (.int .i64 p.seq)) (by kernel_rfl) (by kernel_rfl) (by rintro ⟨_, _, h⟩; exact h) ⟨o0, x0, p0⟩ (fun hH => ?_)
     refine wpAnyH_take (i := 0) (v := .slice (some ⟨g, 0, none⟩) (N + 1) c1) rfl (by kernel_rfl) (by kernel_rfl) (by kernel_rfl) (fun _ _ _ h => h) (Or.inl ⟨by rfl, fun WW hW => by (obtain ⟨hW1, hW2, hW3⟩ := hW; simp only [List.getElem_toArray, List.getElem_cons_zero]; go_simp)⟩) hH ?_
     simp only [List.getElem_toArray, List.getElem_cons_zero, Act.put, List.setIfInBounds_toArray, List.set_cons_zero, List.set_cons_succ]
     refine wpAnyH_take (i := 1) (v := .int .i64 ((N : Int) + 1)) rfl (by kernel_rfl) (by kernel_rfl) (by kernel_rfl) (fun _ _ _ h => h) (Or.inl ⟨by rfl, fun WW hW => by (skip; simp only [List.getElem_toArray, List.getElem_cons_zero, List.getElem_cons_succ]; go_simp)⟩) hH ?_
     simp only [List.getElem_toArray, List.getElem_cons_zero, List.getElem_cons_succ, Act.put, List.setIfInBounds_toArray, List.set_cons_zero, List.set_cons_succ]
     refine wpAnyH_take (i := 2) (v := .bool true) rfl (by kernel_rfl) (by kernel_rfl) (by kernel_rfl) (fun _ _ _ h => h) (Or.inl ⟨by rfl, fun WW hW => by (skip; simp only [List.getElem_toArray, List.getElem_cons_zero, List.getElem_cons_succ]; go_simp)⟩) hH ?_
     simp only [List.getElem_toArray, List.getElem_cons_zero, List.getElem_cons_succ, Act.put, List.setIfInBounds_toArray, List.set_cons_zero, List.set_cons_succ]
     refine wpAnyH_take (i := 3) (v := .bool true) rfl (by kernel_rfl) (by kernel_rfl) (by kernel_rfl) (fun _ _ _ h => h) (Or.inl ⟨by rfl, fun WW hW => by (skip; simp only [List.getElem_toArray, List.getElem_cons_zero, List.getElem_cons_succ]; go_simp)⟩) hH ?_
     simp only [List.getElem_toArray, List.getElem_cons_zero, List.getElem_cons_succ, Act.put, List.setIfInBounds_toArray, List.set_cons_zero, List.set_cons_succ]
     refine wpAnyH_take (i := 4) (v := .pointer (some ⟨x, 0, none⟩)) rfl (by kernel_rfl) (by kernel_rfl) (by kernel_rfl) (fun _ _ _ h => h) (Or.inl ⟨by rfl, fun WW hW => by (skip; simp only [List.getElem_toArray, List.getElem_cons_zero, List.getElem_cons_succ]; go_simp)⟩) hH ?_
     simp only [List.getElem_toArray, List.getElem_cons_zero, List.getElem_cons_succ, Act.put, List.setIfInBounds_toArray, List.set_cons_zero, List.set_cons_succ]
     refine wpAnyH_take (i := 5) (v := .pointer (some ⟨x, 0, none⟩)) rfl (by kernel_rfl) (by kernel_rfl) (by kernel_rfl) (fun _ _ _ h => h) (Or.inl ⟨by rfl, fun WW hW => by (skip; simp only [List.getElem_toArray, List.getElem_cons_zero, List.getElem_cons_succ]; go_simp)⟩) hH ?_
     simp only [List.getElem_toArray, List.getElem_cons_zero, List.getElem_cons_succ, Act.put, List.setIfInBounds_toArray, List.set_cons_zero, List.set_cons_succ]
     refine wpAnyH_take (i := 6) (v := .int .i64 e.seq) rfl (by kernel_rfl) (by kernel_rfl) (by kernel_rfl) (fun _ _ _ h => h) (Or.inl ⟨by rfl, fun WW hW => by (obtain ⟨hW1, hW2, hW3⟩ := hW; simp only [List.getElem_toArray, List.getElem_cons_zero, List.getElem_cons_succ]; go_simp)⟩) hH ?_
     simp only [List.getElem_toArray, List.getElem_cons_zero, List.getElem_cons_succ, Act.put, List.setIfInBounds_toArray, List.set_cons_zero, List.set_cons_succ]
     refine wpAnyH_take (i := 7) (v := .slice (some ⟨g, 0, none⟩) (N + 1) c1) rfl (by kernel_rfl) (by kernel_rfl) (by kernel_rfl) (fun _ _ _ h => h) (Or.inl ⟨by rfl, fun WW hW => by (obtain ⟨hW1, hW2, hW3⟩ := hW; simp only [List.getElem_toArray, List.getElem_cons_zero, List.getElem_cons_succ]; go_simp)⟩) hH ?_
     simp only [List.getElem_toArray, List.getElem_cons_zero, List.getElem_cons_succ, Act.put, List.setIfInBounds_toArray, List.set_cons_zero, List.set_cons_succ]
     refine wpAnyH_take (i := 8) (v := .slice (some ⟨g, 0, none⟩) (N + 1) c1) rfl (by kernel_rfl) (by kernel_rfl) (by kernel_rfl) (fun _ _ _ h => h) (Or.inl ⟨by rfl, fun WW hW => by (obtain ⟨hW1, hW2, hW3⟩ := hW; simp only [List.getElem_toArray, List.getElem_cons_zero, List.getElem_cons_succ]; go_simp)⟩) hH ?_
     simp only [List.getElem_toArray, List.getElem_cons_zero, List.getElem_cons_succ, Act.put, List.setIfInBounds_toArray, List.set_cons_zero, List.set_cons_succ]
     refine wpAnyH_take (i := 9) (v := .int .i64 ((N : Int) + 1)) rfl (by kernel_rfl) (by kernel_rfl) (by kernel_rfl) (fun _ _ _ h => h) (Or.inl ⟨by rfl, fun WW hW => by (skip; simp only [List.getElem_toArray, List.getElem_cons_zero, List.getElem_cons_succ]; go_simp)⟩) hH ?_
     simp only [List.getElem_toArray, List.getElem_cons_zero, List.getElem_cons_succ, Act.put, List.setIfInBounds_toArray, List.set_cons_zero, List.set_cons_succ]
     refine wpAnyH_take (i := 10) (v := .int .i64 (N : Int)) rfl (by kernel_rfl) (by kernel_rfl) (by kernel_rfl) (fun _ _ _ h => h) (Or.inl ⟨by rfl, fun WW hW => by (skip; simp only [List.getElem_toArray, List.getElem_cons_zero, List.getElem_cons_succ]; go_simp)⟩) hH ?_
     simp only [List.getElem_toArray, List.getElem_cons_zero, List.getElem_cons_succ, Act.put, List.setIfInBounds_toArray, List.set_cons_zero, List.set_cons_succ]
     refine wpAnyH_take (i := 11) (v := .pointer (some ⟨g, N * 11, none⟩)) rfl (by kernel_rfl) (by kernel_rfl) (by kernel_rfl) (fun _ _ _ h => h) (Or.inl ⟨by rfl, fun WW hW => by (skip; simp only [List.getElem_toArray, List.getElem_cons_zero, List.getElem_cons_succ]; go_simp)⟩) hH ?_
     simp only [List.getElem_toArray, List.getElem_cons_zero, List.getElem_cons_succ, Act.put, List.setIfInBounds_toArray, List.set_cons_zero, List.set_cons_succ]
     refine wpAnyH_take (i := 12) (v := .pointer (some ⟨g, N * 11, none⟩)) rfl (by kernel_rfl) (by kernel_rfl) (by kernel_rfl) (fun _ _ _ h => h) (Or.inl ⟨by rfl, fun WW hW => by (skip; simp only [List.getElem_toArray, List.getElem_cons_zero, List.getElem_cons_succ]; go_simp)⟩) hH ?_
     simp only [List.getElem_toArray, List.getElem_cons_zero, List.getElem_cons_succ, Act.put, List.setIfInBounds_toArray, List.set_cons_zero, List.set_cons_succ]
     refine wpAnyH_take (i := 13) (v := .int .i64 p.seq) rfl (by kernel_rfl) (by kernel_rfl) (by kernel_rfl) (fun _ _ _ h => h) (Or.inl ⟨by rfl, fun WW hW => by (obtain ⟨hW1, hW2, hW3⟩ := hW; simp only [List.getElem_toArray, List.getElem_cons_zero, List.getElem_cons_succ]; go_simp)⟩) hH ?_
     simp only [List.getElem_toArray, List.getElem_cons_zero, List.getElem_cons_succ, Act.put, List.setIfInBounds_toArray, List.set_cons_zero, List.set_cons_succ]
     refine wpAnyH_take (i := 14) (v := .bool false) rfl (by kernel_rfl) (by kernel_rfl) (by kernel_rfl) (fun _ _ _ h => h) (Or.inl ⟨by rfl, fun WW hW => by (skip; simp only [List.getElem_toArray, List.getElem_cons_zero, List.getElem_cons_succ]; go_simp)⟩) hH ?_
     simp only [List.getElem_toArray, List.getElem_cons_zero, List.getElem_cons_succ, Act.put, List.setIfInBounds_toArray, List.set_cons_zero, List.set_cons_succ]
     refine wpAnyH_take (i := 15) (v := .bool false) rfl (by kernel_rfl) (by kernel_rfl) (by kernel_rfl) (fun _ _ _ h => h) (Or.inl ⟨by rfl, fun WW hW => by (skip; simp only [List.getElem_toArray, List.getElem_cons_zero, List.getElem_cons_succ]; go_simp)⟩) hH ?_
     simp only [List.getElem_toArray, List.getElem_cons_zero, List.getElem_cons_succ, Act.put, List.setIfInBounds_toArray, List.set_cons_zero, List.set_cons_succ]
     refine wpAnyH_done (by kernel_rfl) ?_ _
     have hrow1 : W.ownsRow (w2.heap.size + 5) 24 11 (.slice (some ⟨g, 0, none⟩) (N + 1) c1) (N + 1) (es.flatMap evL) := by have h := HOW.out; rw [HEL.out] at h; exact h
     have HOW := hide hrow1
     have hrow := HOW.out
     have HNO := hide (show (Value.slice (some ⟨g, 0, none⟩) (N + 1) c1).ownBlock ≠ some w2.heap.size from fun h => by have := (hrow.lt _ h).1; omega)
     have HNA := hide (show (Value.slice (some ⟨g, 0, none⟩) (N + 1) c1).ownBlock ≠ some (w2.heap.size + 1) from fun h => by have := (hrow.lt _ h).1; omega)
     have HNN := hide (show (Value.slice (some ⟨g, 0, none⟩) (N + 1) c1).ownBlock ≠ some (w.heap.size + 1) from fun h => by have := (hrow.lt _ h).1; omega)
     have HNX := hide (qwb hrow HX.out (by decide))
     have HOW2 := hide (fun X => (show (W.alloc X).drew.ownsRow (w2.heap.size + 5) 24 11 (.slice (some ⟨g, 0, none⟩) (N + 1) c1) (N + 1) ((es).flatMap evL) from (hrow.alloc X).drew))
     have hx11 := (qe8 (qd (show W.heap[x]? = _ from HX.out) |> fun h => qi0 (cs := e.cells.toList) (ds := [.int .i64 (mm : Int)]) h))
     obtain ⟨v0, v1, v2, v3, v4, v5, v6, v7, v8, v9, v10⟩ := hx11
     have n1 : x ≠ w2.heap.size := by omega
     have n2 : x ≠ w2.heap.size + 1 := by omega
     have n3 : w.heap.size + 1 ≠ w2.heap.size := by omega
     have n4 : w.heap.size + 1 ≠ w2.heap.size + 1 := by omega
     have n1' : ¬ w2.heap.size = x := by omega
     have n2' : ¬ w2.heap.size + 1 = x := by omega
     have n3' : ¬ w2.heap.size = w.heap.size + 1 := by omega
     have n4' : ¬ w2.heap.size = w.heap.size := by omega
     have HPU := hide (show ∀ A2 c2 w1, w1.ownsRow (w2.heap.size + 5) 24 11 (.slice A2 ((N + 1) + 1) c2) ((N + 1) + 1) ((es).flatMap evL ++ evL e) → (W.alloc (.cells #[.int .i64 e.seq, .int .i64 e.time, .int .u8 (e.cpu : Int), .int .u8 (e.kind : Int), .int .i64 e.task, .int .i64 e.group, .int .i64 e.to, .int .i64 e.weight, .int .i64 e.ticks, .int .u64 (e.mask : Int), .int .i64 e.got] 24)).drew.grownBy w1 (Value.slice (some ⟨g, 0, none⟩) (N + 1) c1).ownBlock → ((Value.slice A2 ((N + 1) + 1) c2).ownBlock = (Value.slice (some ⟨g, 0, none⟩) (N + 1) c1).ownBlock ∨ (Value.slice A2 ((N + 1) + 1) c2).ownBlock = some (W.alloc (.cells #[.int .i64 e.seq, .int .i64 e.time, .int .u8 (e.cpu : Int), .int .u8 (e.kind : Int), .int .i64 e.task, .int .i64 e.group, .int .i64 e.to, .int .i64 e.weight, .int .i64 e.ticks, .int .u64 (e.mask : Int), .int .i64 e.got] 24)).drew.heap.size) → ReadAt w w2.heap.size m ((es) ++ [e]) (a + mm) ((w1.setCell ⟨w2.heap.size, 0, none⟩ (.slice A2 ((N + 1) + 1) c2)).setCell ⟨w2.heap.size + 1, 0, none⟩ (.int .i64 ((a : Int) + (mm : Int)))) (.slice A2 ((N + 1) + 1) c2) ∧ ChgT (ReadT w w2.heap.size) W ((w1.setCell ⟨w2.heap.size, 0, none⟩ (.slice A2 ((N + 1) + 1) c2)).setCell ⟨w2.heap.size + 1, 0, none⟩ (.int .i64 ((a : Int) + (mm : Int)))) from fun A2 c2 w1 a1 a2 a3 => by
      have h := HRA.out.push (e := e) (mm := mm) (A' := A2) (c' := c2) ((Chg.refl [] W).alloc (.cells #[.int .i64 e.seq, .int .i64 e.time, .int .u8 (e.cpu : Int), .int .u8 (e.kind : Int), .int .i64 e.task, .int .i64 e.group, .int .i64 e.to, .int .i64 e.weight, .int .i64 e.ticks, .int .u64 (e.mask : Int), .int .i64 e.got] 24)).drew a2 (by rw [HEL.out]; exact a1) (by rw [HEL.out]; exact a3)
      unfold pushW at h
      rw [Int.natCast_add, HEL.out] at h
      exact h)
     have hpush := HPU.out
     have HSAID := hide (show zc cpu m b none l = joinE (es ++ [e]) (a + mm) (zc cpu (m - (k + 1)) e.at (some e) (lk.drop mm)) by rw [HSP.out]; exact qgj HQT.out (by simp [HSQ.out]) es a)
     by_cases hend : k + 1 = m
     ·have hEB : ((((N : Int) + 1 + 1) : Int) == (m : Int)) = true := by rw [beq_iff_eq]; omega
      have HEND := hide hend
      clear hend
      gi_wp2_with (gi_at_builtin; refine qd6 rfl rfl ei_ev (HOW2.out _) rfl (Rd.block W (evL e) _ 11 rfl) rfl (zn e) (by omega) (by omega) (by show w2.heap.size + 5 ≤ (W.alloc _).heap.size; simp; omega) ?_; intro A2 c2 w1 hown1 hgr1 hbl1; obtain ⟨hc1, hf1⟩ := HRA.out.out.later ((Chg.refl [] W).alloc (.cells #[.int .i64 e.seq, .int .i64 e.time, .int .u8 (e.cpu : Int), .int .u8 (e.kind : Int), .int .i64 e.task, .int .i64 e.group, .int .i64 e.to, .int .i64 e.weight, .int .i64 e.ticks, .int .u64 (e.mask : Int), .int .i64 e.got] 24)).drew hgr1 HNO.out; have hA1 := qay hgr1 HRA.out.at' HNA.out; have hN1 := qay hgr1 HRA.out.num HNN.out; have hX1 := qay hgr1 HX.out HNX.out; have u0 : w1.cell? ⟨w2.heap.size + 1, 0, none⟩ = some (.int .i64 (a : Int)) := by { simp [World.cell?, hA1] }; have u1 : ∀ i, w1.frozen? ⟨w2.heap.size + 1, i, none⟩ = false := fun i => by { simp [World.frozen?, hA1] }; have u2 : w1.cell? ⟨w.heap.size + 1, 0, none⟩ = some (.int .i64 (m : Int)) := by { simp [World.cell?, hN1] }; have u3 : w1.cell? ⟨x, 11, none⟩ = some (.int .i64 (mm : Int)) := by { simp [World.cell?, hX1, tk] }; have HU := hide (And.intro hA1 (And.intro hN1 hX1)); clear hA1 hN1 hX1)
      have hp := hpush A2 c2 w1 hown1 hgr1 hbl1
      exact ⟨hp.2, ⟨_, _, _, hp.1, by omega, by rw [HSAID.out, show m - (k + 1) = 0 by have := HEND.out; omega]; unfold joinE; simp [zc]⟩, fun W4 hk4 => hp.1.tkeep hk4 hsS⟩
     ·have hEB : ((((N : Int) + 1 + 1) : Int) == (m : Int)) = false := by rw [beq_eq_false_iff_ne]; omega
      gi_wp2_with (gi_at_builtin; refine qd6 rfl rfl ei_ev (HOW2.out _) rfl (Rd.block W (evL e) _ 11 rfl) rfl (zn e) (by omega) (by omega) (by show w2.heap.size + 5 ≤ (W.alloc _).heap.size; simp; omega) ?_; intro A2 c2 w1 hown1 hgr1 hbl1; obtain ⟨hc1, hf1⟩ := HRA.out.out.later ((Chg.refl [] W).alloc (.cells #[.int .i64 e.seq, .int .i64 e.time, .int .u8 (e.cpu : Int), .int .u8 (e.kind : Int), .int .i64 e.task, .int .i64 e.group, .int .i64 e.to, .int .i64 e.weight, .int .i64 e.ticks, .int .u64 (e.mask : Int), .int .i64 e.got] 24)).drew hgr1 HNO.out; have hA1 := qay hgr1 HRA.out.at' HNA.out; have hN1 := qay hgr1 HRA.out.num HNN.out; have hX1 := qay hgr1 HX.out HNX.out; have u0 : w1.cell? ⟨w2.heap.size + 1, 0, none⟩ = some (.int .i64 (a : Int)) := by { simp [World.cell?, hA1] }; have u1 : ∀ i, w1.frozen? ⟨w2.heap.size + 1, i, none⟩ = false := fun i => by { simp [World.frozen?, hA1] }; have u2 : w1.cell? ⟨w.heap.size + 1, 0, none⟩ = some (.int .i64 (m : Int)) := by { simp [World.cell?, hN1] }; have u3 : w1.cell? ⟨x, 11, none⟩ = some (.int .i64 (mm : Int)) := by { simp [World.cell?, hX1, tk] }; have HU := hide (And.intro hA1 (And.intro hN1 hX1)); clear hA1 hN1 hX1)
      have hp := hpush A2 c2 w1 hown1 hgr1 hbl1
      obtain ⟨f', rfl⟩ : ∃ f', f = f' + 1 := ⟨f - 1, by have := htl.2 trivial; omega⟩
      exact ⟨hp.2, _, _, f', e.at, lk.drop mm, _, by rw [List.length_append, HEL.out]; simp; omega, hp.1, by rw [HDR.out]; rfl, by rw [List.length_drop]; have := htl.2 trivial; omega, by rw [List.length_drop]; have := htl.2 trivial; omega, by omega, by rw [List.length_drop]; omega, by rw [HSAID.out]; simp⟩
  ·have hne : ((er : Int) != 0) = true := by rw [bne_iff_ne]; omega
   have HBD := hide hbad
   clear hbad
   gi_wp2
   have h := HRA.out.ret (S := [w2.heap.size + 1 + 1, w2.heap.size + 1 + 1 + 1 + 1]) (B := W3.heap.size) (b := b) (l := l) (er := er) (m := m) (cpu := cpu) (by rw [HSP.out]; exact qk7 HQT.out HBD.out es a)
   exact ⟨h.1, ⟨er, h.2.1⟩, fun W4 hk4 => h.2.2 W4 hk4 hsS⟩
 case hdone =>
  rintro D W hD ⟨es, a, f, bk, lk, v, h1, h2, h3, _⟩ hK
  exfalso
  rw [List.drop_eq_nil_of_le (by simp)] at h3
  rw [qdm] at h3
  cases h3
 case hstop =>
  rintro D c' k W hD hk0 hk hj hK
  unfold qn6 at hj
  split at hj
  ·obtain ⟨es, a, v, hra', hal, hsaid⟩ := hj
   have HOW := hide hra'.out.row
   obtain ⟨A1, c1, rfl⟩ := qbh HOW.out
   have hWz := hra'.size
   have o0 := hra'.out.cell
   have o1 : W.cell? ⟨w2.heap.size + 1, 0, none⟩ = some (.int .i64 (a : Int)) := by simp [World.cell?, hra'.at']
   have r8c : W.cell? ⟨w.heap.size + 1 + 1, 0, none⟩ = some (.slice none 0 0) := by simp [World.cell?, hra'.r8]
   have r9c : W.cell? ⟨w.heap.size + 1 + 1 + 1, 0, none⟩ = some (.int .i64 0) := by simp [World.cell?, hra'.r9]
   have r10c : W.cell? ⟨w.heap.size + 1 + 1 + 1 + 1, 0, none⟩ = some (.int .i64 0) := by simp [World.cell?, hra'.r10]
   have r8f : ∀ i, W.frozen? ⟨w.heap.size + 1 + 1, i, none⟩ = false := fun i => by simp [World.frozen?, hra'.r8]
   have r9f : ∀ i, W.frozen? ⟨w.heap.size + 1 + 1 + 1, i, none⟩ = false := fun i => by simp [World.frozen?, hra'.r9]
   have r10f : ∀ i, W.frozen? ⟨w.heap.size + 1 + 1 + 1 + 1, i, none⟩ = false := fun i => by simp [World.frozen?, hra'.r10]
   have HRA := hide hra'
   have HSD := hide hsaid
   have HKD := hide hK
   clear hra' hsaid hrc hra hK
   have f00 := @qbq (w.heap.size + 1 + 1) ⟨w2.heap.size, 0, none⟩ (by show w2.heap.size ≠ w.heap.size + 1 + 1; omega)
   have f01 := @qbq (w.heap.size + 1 + 1 + 1) ⟨w2.heap.size, 0, none⟩ (by show w2.heap.size ≠ w.heap.size + 1 + 1 + 1; omega)
   have f02 := @qbq (w.heap.size + 1 + 1 + 1 + 1) ⟨w2.heap.size, 0, none⟩ (by show w2.heap.size ≠ w.heap.size + 1 + 1 + 1 + 1; omega)
   have f10 := @qbq (w.heap.size + 1 + 1) ⟨w2.heap.size + 1, 0, none⟩ (by show w2.heap.size + 1 ≠ w.heap.size + 1 + 1; omega)
   have f11 := @qbq (w.heap.size + 1 + 1 + 1) ⟨w2.heap.size + 1, 0, none⟩ (by show w2.heap.size + 1 ≠ w.heap.size + 1 + 1 + 1; omega)
   have f12 := @qbq (w.heap.size + 1 + 1 + 1 + 1) ⟨w2.heap.size + 1, 0, none⟩ (by show w2.heap.size + 1 ≠ w.heap.size + 1 + 1 + 1 + 1; omega)
   have HF := hide (And.intro f00 (And.intro f01 (And.intro f02 (And.intro f10 (And.intro f11 f12)))))
   clear f00 f01 f02 f10 f11 f12
   gi_wp2
   refine wpIn_wide.2 ?_
   go_region_held3 (fun w' => w'.cell? ⟨w2.heap.size, 0, none⟩ = some (.slice A1 es.length c1) ∧ w'.cell? ⟨w2.heap.size + 1, 0, none⟩ = some (.int .i64 (a : Int)))
    ((obtain ⟨f00, f01, f02, f10, f11, f12⟩ := HF.out; (try simp only [World.cell?_drew, f00, f01, f02, f10, f11, f12]); exact ⟨o0, o1⟩))
    (fail)
   gi_wp2
   obtain ⟨Wf, hWf⟩ : ∃ Wf, Wf = (((W.setCell ⟨w.heap.size + 1 + 1, 0, none⟩ (.slice A1 es.length c1)).setCell ⟨w.heap.size + 1 + 1 + 1, 0, none⟩ (.int .i64 (a : Int))).setCell ⟨w.heap.size + 1 + 1 + 1 + 1, 0, none⟩ (.int .i64 0)).drew := ⟨_, rfl⟩
   rw [← hWf]
   have hDD : W3.heap.size ≤ D := hD
   have hKf : Wf.heap[D]? = some (.deferred (some [])) := by
    rw [hWf]
    show (((W.setCell _ _).setCell _ _).setCell _ _).heap[D]? = _
    rw [qn (by omega), qn (by omega), qn (by omega)]; exact HKD.out
   have e8 : Wf.heap[w.heap.size + 1 + 1]? = some (.cells #[.slice A1 es.length c1] 26 (0, 0)) := by
    rw [hWf]
    show (((W.setCell _ _).setCell _ _).setCell _ _).heap[w.heap.size + 1 + 1]? = _
    rw [qn (by omega), qn (by omega)]; exact qt HRA.out.r8 _
   have e9 : Wf.heap[w.heap.size + 1 + 1 + 1]? = some (.cells #[.int .i64 (a : Int)] 3 (0, 0)) := by
    rw [hWf]
    show (((W.setCell _ _).setCell _ _).setCell _ _).heap[w.heap.size + 1 + 1 + 1]? = _
    rw [qn (by omega)]; exact qt (by rw [qn (by omega)]; exact HRA.out.r9) _
   have e10 : Wf.heap[w.heap.size + 1 + 1 + 1 + 1]? = some (.cells #[.int .i64 0] 44 (0, 0)) := by
    rw [hWf]
    show (((W.setCell _ _).setCell _ _).setCell _ _).heap[w.heap.size + 1 + 1 + 1 + 1]? = _
    exact qt (by rw [qn (by omega), qn (by omega)]; exact HRA.out.r10) _
   have hBf : Below w.heap.size w Wf := by
    rw [hWf]
    exact (zi (zi (zi HRA.out.below (by omega) _) (by omega) _) (by omega) _).drew
   have hOf : Wf.ownsRow (w2.heap.size + 5) 24 11 (.slice A1 es.length c1) es.length (es.flatMap evL) := by
    rw [hWf]
    exact (qbw (qbw (qbw HOW.out (p := ⟨w.heap.size + 1 + 1, 0, none⟩) (by show w.heap.size + 1 + 1 < _; omega) _) (p := ⟨w.heap.size + 1 + 1 + 1, 0, none⟩) (by show w.heap.size + 1 + 1 + 1 < _; omega) _) (p := ⟨w.heap.size + 1 + 1 + 1 + 1, 0, none⟩) (by show w.heap.size + 1 + 1 + 1 + 1 < _; omega) _).drew
   have hkp : Keep W3.heap.size [] Wf (Wf.putObj D (.deferred none)) := Keep.putObj Wf _ hKf rfl hD
   have h8 := hkp.obj _ _ e8 rfl (by simp)
   have h9 := hkp.obj _ _ e9 rfl (by simp)
   have h10 := hkp.obj _ _ e10 rfl (by simp)
   refine ⟨by simp, .inl ⟨_, _, rfl, run_takeDeferred hKf, ?_⟩⟩
   refine ⟨_, qc9 (b1 := w.heap.size + 1 + 1) (b2 := w.heap.size + 1 + 1 + 1) (b3 := w.heap.size + 1 + 1 + 1 + 1) (x1 := .slice A1 es.length c1) (x2 := .int .i64 (a : Int)) (x3 := .int .i64 0) rfl rfl rfl rfl (by kernel_rfl) (by kernel_rfl) (by kernel_rfl) (by simp [World.cell?, h8]) (by simp [World.cell?, h9]) (by simp [World.cell?, h10]), ?_⟩
   rw [HSD.out]
   exact ⟨⟨_, rfl, qfl (hkp.ownsRow hOf (by simp)) (by omega)⟩, hBf.trans (hkp.below (by omega) (by simp))⟩
  ·obtain ⟨er, hre⟩ := hj
   have HKD := hide hK
   have HRE := hide hre
   clear hre hrc hra hK
   gi_wp2
   have hkp : Keep W3.heap.size [] W (W.putObj D (.deferred none)) := Keep.putObj W _ HKD.out rfl hD
   have h8 := hkp.obj _ _ HRE.out.r8 rfl (by simp)
   have h9 := hkp.obj _ _ HRE.out.r9 rfl (by simp)
   have h10 := hkp.obj _ _ HRE.out.r10 rfl (by simp)
   refine ⟨by simp, .inl ⟨_, _, rfl, run_takeDeferred HKD.out, ?_⟩⟩
   refine ⟨_, qc9 (b1 := w.heap.size + 1 + 1) (b2 := w.heap.size + 1 + 1 + 1) (b3 := w.heap.size + 1 + 1 + 1 + 1) (x1 := .slice none 0 0) (x2 := .int .i64 0) (x3 := .int .i64 (er : Int)) rfl rfl rfl rfl (by kernel_rfl) (by kernel_rfl) (by kernel_rfl) (by simp [World.cell?, h8]) (by simp [World.cell?, h9]) (by simp [World.cell?, h10]), ?_⟩
   rw [HRE.out.said]
   exact ⟨⟨_, rfl, World.ownsRow_nil _ _ _ _⟩, HRE.out.below.trans (hkp.below (by omega) (by simp))⟩
  ·exact hj.elim
end Go.Proofs.YtnakabnmjnfpcaaGreatDoor
namespace Go.Proofs.YtnakabnmjnfpcaaGreatDoor
open Go.RowKit Go.Shelf
attribute [local go_sem] Oper.semAt_some
set_option maxRecDepth 100000 in
set_option maxHeartbeats 2000000 in
theorem qj5 (b : Bs) (cpu : Nat) (A : Option Addr) (n c : Nat) (m : Int) (w : World) (er : Nat)
  (hm : (m < 0 ∧ er = 2) ∨ (0 ≤ m ∧ b.right = false ∧ er = 70) ∨ (m = 0 ∧ b.right = true ∧ er = 0)) :
  Calls Tryz.prog 66 #[.agg b.cells, .int .u8 (cpu : Int), .int .i64 m, .slice A n c] w (ReadPost w ([], 0, er)) := by
 have HR := hide (fun W => qbd b W)
 have HB2 := hide (qax b)
 obtain ⟨W0, hW0⟩ : ∃ W0, W0 = ((((w.alloc (.cells b.cells 76)).alloc (.cells #[.int .i64 m] 3)).alloc (.cells #[.slice none 0 0] 26)).alloc (.cells #[.int .i64 0] 3)).alloc (.cells #[.int .i64 0] 44) := ⟨_, rfl⟩
 have hs0 : W0.heap.size = w.heap.size + 5 := by rw [hW0]; simp
 have hb0 : Below w.heap.size w W0 := by rw [hW0]; exact (((((Below.refl _ _).alloc (Nat.le_refl _) _).alloc (by simp) _).alloc (by simp; omega) _).alloc (by simp; omega) _).alloc (by simp; omega) _
 have hx0 : W0.heap[w.heap.size]? = some (.cells b.cells 76) := by
  rw [hW0, Below.heap_alloc _ _ _ (by simp <;> omega), Below.heap_alloc _ _ _ (by simp <;> omega), Below.heap_alloc _ _ _ (by simp <;> omega), Below.heap_alloc _ _ _ (by simp)]; exact World.alloc_heap_new w _
 have hx1 : W0.heap[w.heap.size + 1]? = some (.cells #[.int .i64 m] 3) := by
  rw [hW0, Below.heap_alloc _ _ _ (by simp <;> omega), Below.heap_alloc _ _ _ (by simp <;> omega), Below.heap_alloc _ _ _ (by simp)]
  have := World.alloc_heap_new (w.alloc (.cells b.cells 76)) (.cells #[.int .i64 m] 3); rwa [World.size_alloc] at this
 have hx2 : W0.heap[w.heap.size + 1 + 1]? = some (.cells #[.slice none 0 0] 26) := by
  rw [hW0, Below.heap_alloc _ _ _ (by simp <;> omega), Below.heap_alloc _ _ _ (by simp)]
  have := World.alloc_heap_new ((w.alloc (.cells b.cells 76)).alloc (.cells #[.int .i64 m] 3)) (.cells #[.slice none 0 0] 26); simpa only [World.size_alloc] using this
 have hx3 : W0.heap[w.heap.size + 1 + 1 + 1]? = some (.cells #[.int .i64 0] 3) := by
  rw [hW0, Below.heap_alloc _ _ _ (by simp)]
  have := World.alloc_heap_new (((w.alloc (.cells b.cells 76)).alloc (.cells #[.int .i64 m] 3)).alloc (.cells #[.slice none 0 0] 26)) (.cells #[.int .i64 0] 3); simpa only [World.size_alloc] using this
 have hx4 : W0.heap[w.heap.size + 1 + 1 + 1 + 1]? = some (.cells #[.int .i64 0] 44) := by
  rw [hW0]
  have := World.alloc_heap_new ((((w.alloc (.cells b.cells 76)).alloc (.cells #[.int .i64 m] 3)).alloc (.cells #[.slice none 0 0] 26)).alloc (.cells #[.int .i64 0] 3)) (.cells #[.int .i64 0] 44); simpa only [World.size_alloc] using this
 have HD0 := hide (qd hx0)
 have k1 : W0.cell? ⟨w.heap.size + 1, 0, none⟩ = some (.int .i64 m) := by simp [World.cell?, hx1]
 have HX := hide (And.intro hx1 (And.intro hx2 (And.intro hx3 hx4)))
 have hsz : w.heap.size + 5 ≤ W0.heap.size := by omega
 clear hx0 hx1 hx2 hx3 hx4 hs0
 generalize b.cells = ds at *
 rcases hm with ⟨hm, rfl⟩ | ⟨hm, hR, rfl⟩ | ⟨rfl, hR, rfl⟩
 ·have hmn : decide (m < 0) = true := by rw [decide_eq_true_eq]; exact hm
  clear hm
  obtain ⟨h1, h2, h3, h4⟩ := HX.out
  have HX2 := hide (And.intro h2 (And.intro h3 h4))
  have r8 : W0.cell? ⟨w.heap.size + 1 + 1, 0, none⟩ = some (.slice none 0 0) := (by simp [World.cell?, h2])
  have r9 : W0.cell? ⟨w.heap.size + 1 + 1 + 1, 0, none⟩ = some (.int .i64 0) := (by simp [World.cell?, h3])
  have r10 : W0.cell? ⟨w.heap.size + 1 + 1 + 1 + 1, 0, none⟩ = some (.int .i64 0) := (by simp [World.cell?, h4])
  have f8 : ∀ i, W0.frozen? ⟨w.heap.size + 1 + 1, i, none⟩ = false := fun i => (by simp [World.frozen?, h2])
  have f9 : ∀ i, W0.frozen? ⟨w.heap.size + 1 + 1 + 1, i, none⟩ = false := fun i => (by simp [World.frozen?, h3])
  have f10 : ∀ i, W0.frozen? ⟨w.heap.size + 1 + 1 + 1 + 1, i, none⟩ = false := fun i => (by simp [World.frozen?, h4])
  clear h1 h2 h3 h4
  refine callsIn_wide.1 (callsIn_of_wp_marks (n := 0) Tryz.func66 rfl trivial ?_ rfl)
  simp only [Tryz.ntmps66, List.size_toArray, List.length_cons, List.length_nil, Nat.reduceAdd, Nat.reduceSub, Array.replicate_succ, Array.replicate_zero, List.push_toArray, List.append_toArray, List.nil_append, List.cons_append]
  gi_wp2_with (rw [← hW0]; clear hW0)
  have e8 : (((W0.setCell ⟨w.heap.size + 1 + 1, 0, none⟩ (.slice none 0 0)).setCell ⟨w.heap.size + 1 + 1 + 1, 0, none⟩ (.int .i64 0)).setCell ⟨w.heap.size + 1 + 1 + 1 + 1, 0, none⟩ (.int .i64 2)).heap[w.heap.size + 1 + 1]? = some (.cells #[.slice none 0 0] 26 (0, 0)) := by
   rw [qn (by omega), qn (by omega)]; exact qt HX2.out.1 _
  have e9 : (((W0.setCell ⟨w.heap.size + 1 + 1, 0, none⟩ (.slice none 0 0)).setCell ⟨w.heap.size + 1 + 1 + 1, 0, none⟩ (.int .i64 0)).setCell ⟨w.heap.size + 1 + 1 + 1 + 1, 0, none⟩ (.int .i64 2)).heap[w.heap.size + 1 + 1 + 1]? = some (.cells #[.int .i64 0] 3 (0, 0)) := by
   rw [qn (by omega)]; exact qt (by rw [qn (by omega)]; exact HX2.out.2.1) _
  have e10 : (((W0.setCell ⟨w.heap.size + 1 + 1, 0, none⟩ (.slice none 0 0)).setCell ⟨w.heap.size + 1 + 1 + 1, 0, none⟩ (.int .i64 0)).setCell ⟨w.heap.size + 1 + 1 + 1 + 1, 0, none⟩ (.int .i64 2)).heap[w.heap.size + 1 + 1 + 1 + 1]? = some (.cells #[.int .i64 2] 44 (0, 0)) := by
   exact qt (by rw [qn (by omega), qn (by omega)]; exact HX2.out.2.2) _
  refine ⟨_, qc9 (b1 := w.heap.size + 1 + 1) (b2 := w.heap.size + 1 + 1 + 1) (b3 := w.heap.size + 1 + 1 + 1 + 1) (x1 := .slice none 0 0) (x2 := .int .i64 0) (x3 := .int .i64 2) rfl rfl rfl rfl (by kernel_rfl) (by kernel_rfl) (by kernel_rfl) (by simp only [World.cell?, e8]; rfl) (by simp only [World.cell?, e9]; rfl) (by simp only [World.cell?, e10]; rfl), ?_⟩
  exact ⟨⟨_, rfl, World.ownsRow_nil _ _ _ _⟩, zi (zi (zi (hb0) (by omega) _) (by omega) _) (by omega) _⟩
 ·have hmn : decide (m < 0) = false := by rw [decide_eq_false_iff_not]; omega
  clear hm
  rw [hR] at HR
  clear hR
  refine callsIn_wide.1 (callsIn_of_wp_marks (n := 0) Tryz.func66 rfl trivial ?_ rfl)
  simp only [Tryz.ntmps66, List.size_toArray, List.length_cons, List.length_nil, Nat.reduceAdd, Nat.reduceSub, Array.replicate_succ, Array.replicate_zero, List.push_toArray, List.append_toArray, List.nil_append, List.cons_append]
  gi_wp2_with (first
   | (rw [← hW0]; clear hW0)
   | (with_reducible refine qjz HD0.out rfl rfl rfl si_bs HB2.out ?_)
   | (refine ⟨trivial, rfl, ?_⟩; refine (callsIn_wide.2 (HR.out _)).mono ?_; rintro r w2 ⟨rfl, hb2⟩; obtain ⟨h1, h2, h3, h4⟩ := HX.out; have k2 := (hb2.cell (p := ⟨w.heap.size + 1, 0, none⟩) (by show w.heap.size + 1 < _; omega)).trans k1; replace h2 := (hb2.block _ (by omega)).trans h2; replace h3 := (hb2.block _ (by omega)).trans h3; replace h4 := (hb2.block _ (by omega)).trans h4; have HX2 := hide (And.intro h2 (And.intro h3 h4)); have r8 : w2.cell? ⟨w.heap.size + 1 + 1, 0, none⟩ = some (.slice none 0 0) := (by simp [World.cell?, h2]); have r9 : w2.cell? ⟨w.heap.size + 1 + 1 + 1, 0, none⟩ = some (.int .i64 0) := (by simp [World.cell?, h3]); have r10 : w2.cell? ⟨w.heap.size + 1 + 1 + 1 + 1, 0, none⟩ = some (.int .i64 0) := (by simp [World.cell?, h4]); have f8 : ∀ i, w2.frozen? ⟨w.heap.size + 1 + 1, i, none⟩ = false := fun i => (by simp [World.frozen?, h2]); have f9 : ∀ i, w2.frozen? ⟨w.heap.size + 1 + 1 + 1, i, none⟩ = false := fun i => (by simp [World.frozen?, h3]); have f10 : ∀ i, w2.frozen? ⟨w.heap.size + 1 + 1 + 1 + 1, i, none⟩ = false := fun i => (by simp [World.frozen?, h4]); clear h1 h2 h3 h4))
  have e8 : (((w2.setCell ⟨w.heap.size + 1 + 1, 0, none⟩ (.slice none 0 0)).setCell ⟨w.heap.size + 1 + 1 + 1, 0, none⟩ (.int .i64 0)).setCell ⟨w.heap.size + 1 + 1 + 1 + 1, 0, none⟩ (.int .i64 70)).heap[w.heap.size + 1 + 1]? = some (.cells #[.slice none 0 0] 26 (0, 0)) := by
   rw [qn (by omega), qn (by omega)]; exact qt HX2.out.1 _
  have e9 : (((w2.setCell ⟨w.heap.size + 1 + 1, 0, none⟩ (.slice none 0 0)).setCell ⟨w.heap.size + 1 + 1 + 1, 0, none⟩ (.int .i64 0)).setCell ⟨w.heap.size + 1 + 1 + 1 + 1, 0, none⟩ (.int .i64 70)).heap[w.heap.size + 1 + 1 + 1]? = some (.cells #[.int .i64 0] 3 (0, 0)) := by
   rw [qn (by omega)]; exact qt (by rw [qn (by omega)]; exact HX2.out.2.1) _
  have e10 : (((w2.setCell ⟨w.heap.size + 1 + 1, 0, none⟩ (.slice none 0 0)).setCell ⟨w.heap.size + 1 + 1 + 1, 0, none⟩ (.int .i64 0)).setCell ⟨w.heap.size + 1 + 1 + 1 + 1, 0, none⟩ (.int .i64 70)).heap[w.heap.size + 1 + 1 + 1 + 1]? = some (.cells #[.int .i64 70] 44 (0, 0)) := by
   exact qt (by rw [qn (by omega), qn (by omega)]; exact HX2.out.2.2) _
  refine ⟨_, qc9 (b1 := w.heap.size + 1 + 1) (b2 := w.heap.size + 1 + 1 + 1) (b3 := w.heap.size + 1 + 1 + 1 + 1) (x1 := .slice none 0 0) (x2 := .int .i64 0) (x3 := .int .i64 70) rfl rfl rfl rfl (by kernel_rfl) (by kernel_rfl) (by kernel_rfl) (by simp only [World.cell?, e8]; rfl) (by simp only [World.cell?, e9]; rfl) (by simp only [World.cell?, e10]; rfl), ?_⟩
  exact ⟨⟨_, rfl, World.ownsRow_nil _ _ _ _⟩, zi (zi (zi (hb0.trans (hb2.mono (by omega))) (by omega) _) (by omega) _) (by omega) _⟩
 ·have hmn : decide ((0 : Int) < 0) = false := rfl
  rw [hR] at HR
  clear hR
  refine callsIn_wide.1 (callsIn_of_wp_marks (n := 0) Tryz.func66 rfl trivial ?_ rfl)
  simp only [Tryz.ntmps66, List.size_toArray, List.length_cons, List.length_nil, Nat.reduceAdd, Nat.reduceSub, Array.replicate_succ, Array.replicate_zero, List.push_toArray, List.append_toArray, List.nil_append, List.cons_append]
  gi_wp2_with (first
   | (rw [← hW0]; clear hW0)
   | (with_reducible refine qjz HD0.out rfl rfl rfl si_bs HB2.out ?_)
   | (refine ⟨trivial, rfl, ?_⟩; refine (callsIn_wide.2 (HR.out _)).mono ?_; rintro r w2 ⟨rfl, hb2⟩; obtain ⟨h1, h2, h3, h4⟩ := HX.out; have k2 := (hb2.cell (p := ⟨w.heap.size + 1, 0, none⟩) (by show w.heap.size + 1 < _; omega)).trans k1; replace h2 := (hb2.block _ (by omega)).trans h2; replace h3 := (hb2.block _ (by omega)).trans h3; replace h4 := (hb2.block _ (by omega)).trans h4; have HX2 := hide (And.intro h2 (And.intro h3 h4)); have r8 : w2.cell? ⟨w.heap.size + 1 + 1, 0, none⟩ = some (.slice none 0 0) := (by simp [World.cell?, h2]); have r9 : w2.cell? ⟨w.heap.size + 1 + 1 + 1, 0, none⟩ = some (.int .i64 0) := (by simp [World.cell?, h3]); have r10 : w2.cell? ⟨w.heap.size + 1 + 1 + 1 + 1, 0, none⟩ = some (.int .i64 0) := (by simp [World.cell?, h4]); have f8 : ∀ i, w2.frozen? ⟨w.heap.size + 1 + 1, i, none⟩ = false := fun i => (by simp [World.frozen?, h2]); have f9 : ∀ i, w2.frozen? ⟨w.heap.size + 1 + 1 + 1, i, none⟩ = false := fun i => (by simp [World.frozen?, h3]); have f10 : ∀ i, w2.frozen? ⟨w.heap.size + 1 + 1 + 1 + 1, i, none⟩ = false := fun i => (by simp [World.frozen?, h4]); clear h1 h2 h3 h4))
  have e8 : (((w2.setCell ⟨w.heap.size + 1 + 1, 0, none⟩ (.slice none 0 0)).setCell ⟨w.heap.size + 1 + 1 + 1, 0, none⟩ (.int .i64 0)).setCell ⟨w.heap.size + 1 + 1 + 1 + 1, 0, none⟩ (.int .i64 0)).heap[w.heap.size + 1 + 1]? = some (.cells #[.slice none 0 0] 26 (0, 0)) := by
   rw [qn (by omega), qn (by omega)]; exact qt HX2.out.1 _
  have e9 : (((w2.setCell ⟨w.heap.size + 1 + 1, 0, none⟩ (.slice none 0 0)).setCell ⟨w.heap.size + 1 + 1 + 1, 0, none⟩ (.int .i64 0)).setCell ⟨w.heap.size + 1 + 1 + 1 + 1, 0, none⟩ (.int .i64 0)).heap[w.heap.size + 1 + 1 + 1]? = some (.cells #[.int .i64 0] 3 (0, 0)) := by
   rw [qn (by omega)]; exact qt (by rw [qn (by omega)]; exact HX2.out.2.1) _
  have e10 : (((w2.setCell ⟨w.heap.size + 1 + 1, 0, none⟩ (.slice none 0 0)).setCell ⟨w.heap.size + 1 + 1 + 1, 0, none⟩ (.int .i64 0)).setCell ⟨w.heap.size + 1 + 1 + 1 + 1, 0, none⟩ (.int .i64 0)).heap[w.heap.size + 1 + 1 + 1 + 1]? = some (.cells #[.int .i64 0] 44 (0, 0)) := by
   exact qt (by rw [qn (by omega), qn (by omega)]; exact HX2.out.2.2) _
  refine ⟨_, qc9 (b1 := w.heap.size + 1 + 1) (b2 := w.heap.size + 1 + 1 + 1) (b3 := w.heap.size + 1 + 1 + 1 + 1) (x1 := .slice none 0 0) (x2 := .int .i64 0) (x3 := .int .i64 0) rfl rfl rfl rfl (by kernel_rfl) (by kernel_rfl) (by kernel_rfl) (by simp only [World.cell?, e8]; rfl) (by simp only [World.cell?, e9]; rfl) (by simp only [World.cell?, e10]; rfl), ?_⟩
  exact ⟨⟨_, rfl, World.ownsRow_nil _ _ _ _⟩, zi (zi (zi (hb0.trans (hb2.mono (by omega))) (by omega) _) (by omega) _) (by omega) _⟩
def qrf (m : Int) (l : List Nat) : Prop := m ≤ 1000000000000 ∨ l.length ≤ 1000000000000
theorem qrg (b : Bs) (cpu : Nat) (hcpu : cpu < 256) (A : Option Addr) (n c : Nat) (m : Int) (hm : I64 m) (l : List Nat) (B : Nat) (w : World) (hL : Laid B w) (hB : B ≤ w.heap.size) (hr : Rd w w.heap.size 1 A n (l.map B8)) (hc : n ≤ c) (hl : ∀ b ∈ l, b < 256) (hn : n ≤ 200000000000000) (hlim : qrf m l) :
  Calls Tryz.prog 66 #[.agg b.cells, .int .u8 (cpu : Int), .int .i64 m, .slice A n c] w (ReadPost w (readR b cpu m l)) := by
 unfold readR
 by_cases h1 : m < 0
 ·rw [if_pos h1]; exact qj5 b cpu A n c m w 2 (.inl ⟨h1, rfl⟩)
 ·rw [if_neg h1]
  cases hR : b.right with
  | false => rw [if_pos rfl]; exact qj5 b cpu A n c m w 70 (.inr (.inl ⟨by omega, hR, rfl⟩))
  | true =>
   rw [if_neg (by simp)]
   by_cases h0 : m = 0
   ·subst h0; exact qj5 b cpu A n c 0 w 0 (.inr (.inr ⟨rfl, hR, rfl⟩))
   ·obtain ⟨k, rfl⟩ : ∃ k : Nat, m = (k : Int) := ⟨m.toNat, by omega⟩
    rw [Int.toNat_natCast]
    refine qre b cpu hcpu A n c k l B w hL hB hr hc hl hn hR (by omega) (by have := hm.2; omega) ?_
    rcases hlim with h | h
    ·exact .inl (by omega)
    ·exact .inr h
end Go.Proofs.YtnakabnmjnfpcaaGreatDoor
namespace Go.Proofs.YtnakabnmjnfpcaaGreatDoor
open Go.RowKit
def bstr (l : List Nat) : ByteArray := ⟨(l.map fun b => UInt8.ofNat b).toArray⟩
theorem qug {P : Program} {ts tsl te : TypeId} (hs : P.underlying tsl = some (.slice te)) (he : P.underlying te = some (.int .u8)) (hd : P.underlying ts = some .string) {w : World} {B : Nat} {A : Option Addr} {n c : Nat} {l : List Nat} (hr : Rd w B 1 A n (l.map B8)) :
  (convert tsl ts (.slice A n c)).run P w = .ok (.string (bstr l)) w := by
 have hlen : l.length = n := by simpa using hr.len
 cases A with
 | none =>
  have hn : n = 0 := by
   rcases Nat.eq_zero_or_pos n with h | h
   ·exact h
   ·obtain ⟨ad, h1, _⟩ := hr.row h; cases h1
  have hl : l = [] := List.eq_nil_of_length_eq_zero (by omega)
  subst hl
  rw [run_convert_bytes_nil w tsl te hs he n c ts hd]
  rfl
 | some a =>
  have hcells : ∀ j u, (l.map B8)[j]? = some u → w.cell? (a.add j) = some u := by
   intro j u hu
   rcases Nat.eq_zero_or_pos n with h | h
   ·have : l = [] := List.eq_nil_of_length_eq_zero (by omega)
    subst this; simp at hu
   ·obtain ⟨ad, h1, _, h2⟩ := hr.row h
    injection h1 with h1; subst h1
    exact h2 j u hu
  have hl := run_loadCells_list (P := P) w a (l.map B8) hcells
  have e : l.map B8 = (l.map (fun b : Nat => (b : Int))).map (Value.int .u8) := by rw [List.map_map]; rfl
  rw [List.length_map, hlen, e] at hl
  rw [run_convert_bytes_string w tsl ts te _ n c hs he hd, run_bytesToString w a n c _ hl, foldl_push_bytes]
  simp [bstr, ByteArray.empty, ByteArray.emptyWithCapacity]
  rfl
theorem qw2 {w : World} {B : Nat} {A : Option Addr} {n c : Nat} {l : List Nat} (hr : Rd w B 1 A n (l.map B8)) : (convert 33 9 (.slice A n c)).run Tryz.prog w = .ok (.string (bstr l)) w :=
 qug (te := 5) (by kernel_rfl) (by kernel_rfl) (by kernel_rfl) hr
theorem quh {l m : List Nat} (hl : ∀ b ∈ l, b < 256) (hm : ∀ b ∈ m, b < 256) (h : bstr l = bstr m) : l = m := by
 unfold bstr at h
 injection h with h
 have h2 : (l.map fun b => UInt8.ofNat b) = (m.map fun b => UInt8.ofNat b) := by simpa using h
 have h3 := congrArg (List.map fun x : UInt8 => x.toNat) h2
 rw [List.map_map, List.map_map] at h3
 have e : ∀ l : List Nat, (∀ b ∈ l, b < 256) → l.map ((fun x : UInt8 => x.toNat) ∘ fun b => UInt8.ofNat b) = l := fun l hl => by
  conv => rhs; rw [← List.map_id l]
  exact List.map_congr_left (fun b hb => by have := hl b hb; simp; omega)
 rwa [e l hl, e m hm] at h3
end Go.Proofs.YtnakabnmjnfpcaaGreatDoor
namespace Go.Proofs.YtnakabnmjnfpcaaGreatDoor
open Go.RowKit Go.ChangeShapes Go.WideShapes
section
variable {H : Type} {enc : TypeId × Value → H} {P : Program}
theorem qfq (hl : laidOutB P = true) {W W' : World} (hb : Below W.heap.size W W') : ∀ {ts : List TypeId} {vs : List Value} {ds : List (DataW H)} {ps : List MemPlace},
  (ts.all fun t => P.readableRec t && decide (t < P.types.size)) = true → DataW.TrodAll enc P W 0 (fun _ => true) true ts vs ds ps → (∀ x ∈ ps, x.block < W.heap.size) →
  DataW.TrodAll enc P W' 0 (fun b => decide (b < W.heap.size)) true ts vs ds ps
 | [], vs, ds, ps, _, h, _ => by
  obtain ⟨rfl, rfl, rfl⟩ := trodAll_nil h
  rfl
 | t :: ts, vs, ds, ps, ht, h, hlt => by
  obtain ⟨v, vs', d, ds', p, q, rfl, rfl, rfl, h1, h2⟩ := trodAll_cons h
  simp only [List.all_cons, Bool.and_eq_true, decide_eq_true_eq] at ht
  exact ⟨p, q, Below.trod hl ht.1.1 ht.1.2 h1 hb (fun x hx => hlt x (List.mem_append_left _ hx)), qfq hl hb (by simpa using ht.2) h2 (fun x hx => hlt x (List.mem_append_right _ hx)), rfl⟩
theorem qrh {f : Func} {s : ChangeSpec} {W W' : World} {args : Array Value} {ds gs : List (DataW H)} {before : List MemPlace} {tb : TypeId}
  (hl : laidOutB P = true) (hts : (f.params.toList.all fun t => P.readableRec t && decide (t < P.types.size)) = true)
  (hr : f.resultTypes = #[tb]) (hbt : P.underlying tb = some .bool) (hv : s.vars = [])
  (hW : DataW.Whole enc P f.params.toList s.vars false W args.toList ds gs before) (hs : s.fn H ds = { results := [.lit (.bool true)], args := ds }) (hb : Below W.heap.size W W') :
  s.post enc P f false true false false W args (.bool true) W' := by
 have hlt : ∀ x ∈ before, x.block < W.heap.size := fun p hp => hW.lt p hp
 have hW' := hW
 obtain ⟨p, q, hA, hV, e, hfz, hnd⟩ := hW
 rw [hv] at hV
 obtain ⟨rfl, rfl⟩ := trodVars_none hV
 rw [List.append_nil] at e
 subst e
 refine ⟨ds, [], before, [], before, [], hW', ?_, ?_, ?_, hb.frame _, fun h => by cases h⟩
 ·rw [List.append_nil, hs, hr]
  exact trodAll_mk1 (shut_bool hbt _)
 ·rw [List.append_nil, hs]
  exact qfq hl hb hts hA hlt
 ·rw [List.append_nil, hs, hv]
  rfl
end
theorem qx7 : Tryz.prog.underlying 5 = some (.int .u8) := by kernel_rfl
section
variable {H : Type} {enc : TypeId × Value → H} {W : World} {b0 : Nat} {v : Value} {d : DataW H} {p : List MemPlace}
end
end Go.Proofs.YtnakabnmjnfpcaaGreatDoor
namespace Go.Proofs.YtnakabnmjnfpcaaGreatDoor
open Go.RowKit
def look (σ : List (Nat × Value)) : Operand → Option Value
 | .tmp t => σ.lookup t
 | .const v => some v
 | .global g => some (.pointer (some ⟨g, 0, none⟩))
 | .func f => some (.func (.func f) #[] #[])
structure Fr (a : Act) (n : Nat) (D : List Deferred) (σ : List (Nat × Value)) : Prop where
 size : a.tmps.size = n
 defers : a.defers = D
 slot : ∀ t v, σ.lookup t = some v → a.tmps.getD t undef = v
section
variable {a : Act} {n : Nat} {D : List Deferred} {σ σ' : List (Nat × Value)}
theorem Fr.eval (h : Fr a n D σ) {x : Operand} {v : Value} (hx : look σ x = some v) : a.eval x = v := by
 cases x with
 | tmp t => exact h.slot t v hx
 | const u => injection hx
 | global g => injection hx
 | func f => injection hx
theorem Fr.put (h : Fr a n D σ) {d : Nat} (hd : d < n) (v : Value) : Fr (a.put (some d) v) n D ((d, v) :: σ) := by
 refine ⟨by simpa [Act.put] using h.size, h.defers, fun t u hu => ?_⟩
 have hs := h.size
 by_cases e : t = d
 ·subst e
  simp only [List.lookup_cons, beq_self_eq_true, Option.some.injEq] at hu
  subst hu
  simp [Act.put, hs, hd]
 ·have hb : (t == d) = false := by simpa using e
  simp only [List.lookup_cons, hb] at hu
  have h2 := h.slot t u hu
  simp only [Act.put, Array.getD_eq_getD_getElem?, Array.getElem?_setIfInBounds_ne (Ne.symm e)]
  simpa using h2
theorem Fr.sub (h : Fr a n D σ) (hs : σ'.map (fun p => σ.lookup p.1) = σ'.map (fun p => some p.2)) : Fr a n D σ' := by
 refine ⟨h.size, h.defers, fun t v hv => h.slot t v ?_⟩
 induction σ' with
 | nil => cases hv
 | cons p r ih =>
  simp only [List.map_cons, List.cons.injEq] at hs
  obtain ⟨k, u⟩ := p
  simp only [List.lookup_cons] at hv
  split at hv
  ·rename_i hk
   rw [beq_iff_eq] at hk
   subst hk
   rw [hs.1, ← hv]
  ·exact ih hs.2 hv
end
def wantB (ops : Array Oper) (σ : List (Nat × Value)) (o : Oper) : Option Bool :=
 match o.guard with
 | none => some true
 | some (j, b) => match (ops[j]?).bind (·.dst) with
  | none => none
  | some t => match σ.lookup t with
   | some (.bool c) => some (c == b)
   | some (.tuple _) => some false
   | _ => none
theorem qmx : undef = .tuple #[] := rfl
theorem qda {a : Act} {n : Nat} {D : List Deferred} {σ : List (Nat × Value)} {ops : Array Oper} {o : Oper} {c : Bool} (h : Fr a n D σ) (hw : wantB ops σ o = some c) : Region.wanted o (yielded ops a.tmps) = c := by
 unfold wantB at hw
 unfold Region.wanted
 cases hg : o.guard with
 | none => rw [hg] at hw; simpa using hw
 | some jb =>
  obtain ⟨j, b⟩ := jb
  rw [hg] at hw
  simp only at hw ⊢
  cases ht : (ops[j]?).bind (·.dst) with
  | none => rw [ht] at hw; cases hw
  | some t =>
   rw [ht] at hw
   simp only at hw
   unfold yielded
   rw [ht]
   simp only [Option.bind_some]
   cases hl : σ.lookup t with
   | none => rw [hl] at hw; cases hw
   | some v =>
    rw [hl] at hw
    have hs := h.slot t v hl
    rw [Array.getD_eq_getD_getElem?] at hs
    cases hx : a.tmps[t]? with
    | none =>
     rw [hx] at hs
     simp only [Option.getD_none] at hs
     subst hs
     rw [qmx] at hw
     simp only [Option.some.injEq] at hw
     subst hw
     rfl
    | some u =>
     rw [hx] at hs
     simp only [Option.getD_some] at hs
     subst hs
     cases u <;> simp only [Option.some.injEq, reduceCtorEq] at hw
     ·subst hw; rfl
     ·subst hw; rfl
def qwc (op : BinOp) (k : IntKind) (a b : Int) : Option Value :=
 match op with
 | .add => some (.int k (k.wrap (a + b)))
 | .sub => some (.int k (k.wrap (a - b)))
 | .mul => some (.int k (k.wrap (a * b)))
 | .quo => if b = 0 then none else some (.int k (k.wrap (a.tdiv b)))
 | .rem => if b = 0 then none else some (.int k (a.tmod b))
 | .and => some (.int k (k.wrap (BitVec.ofInt k.bits a &&& BitVec.ofInt k.bits b).toNat))
 | .or => some (.int k (k.wrap (BitVec.ofInt k.bits a ||| BitVec.ofInt k.bits b).toNat))
 | .xor => some (.int k (k.wrap (BitVec.ofInt k.bits a ^^^ BitVec.ofInt k.bits b).toNat))
 | .eql => some (.bool (a == b))
 | .neq => some (.bool (a != b))
 | .lss => some (.bool (a < b))
 | .leq => some (.bool (a ≤ b))
 | .gtr => some (.bool (a > b))
 | .geq => some (.bool (a ≥ b))
 | _ => none
def qk9 (op : BinOp) : Value → Value → Option Value
 | .int k a, .int k' b => match op with
  | .shl => if b < 0 then none else some (.int k (k.wrap (a * 2 ^ (min b.toNat k.bits))))
  | .shr => if b < 0 then none else some (.int k (a.fdiv (2 ^ (min b.toNat k.bits))))
  | _ => if k = k' then qwc op k a b else none
 | .string a, .string b => match op with
  | .eql => some (.bool (a.toList == b.toList))
  | .neq => some (.bool !(a.toList == b.toList))
  | _ => none
 | _, _ => none
theorem qen {P : Program} {op : BinOp} {x y v : Value} (h : qk9 op x y = some v) (t : TypeId) (w : World) : (binOp op t x y).run P w = .ok v w := by
  unfold qk9 at h
  split at h
  · split at h
    · split at h
      · cases h
      · rename_i hb; injection h with h; subst h; simp [binOp, Op.shift, hb]
    · split at h
      · cases h
      · rename_i hb; injection h with h; subst h; simp [binOp, Op.shift, hb]
    · split at h
      · rename_i hk
        subst hk
        unfold qwc at h
        split at h <;> first
          | (injection h with h; subst h; simp [binOp, Op.intArith, Op.intBits, Op.intCmp]; done)
          | (split at h
             · cases h
             · rename_i hb; injection h with h; subst h; simp [binOp, Op.intDiv, hb])
          | cases h
      · cases h
  · split at h
    · injection h with h; subst h; simp [binOp, Op.stringOp]
    · injection h with h; subst h; simp [binOp, Op.stringOp]
    · cases h
  · cases h
def qri : Value → Bool
 | .agg _ => false
 | .nilIface => false
 | _ => true
theorem qa2 {P : Program} (op : BinOp) (t : TypeId) (x y : Operand) {a b : Value} (ha : qri a = true) (w : World) : (eqGuard op t x y a b).run P w = .ok () w := by
 unfold eqGuard
 cases a <;> first | exact absurd ha (by decide) | (split <;> simp; done) | exact absurd ha (by simp [qri])
def qj6 (P : Program) (s f : Nat) : Option Nat :=
 match P.underlying s with
 | some (.struct fs) => match fs[f]? with
  | some fl => match P.info? fl.type with
   | some i => if i.size = 0 then none else some fl.offset
   | none => none
  | none => none
 | _ => none
theorem qla {P : Program} {s f off : Nat} (h : qj6 P s f = some off) (a : Addr) (w : World) : (Instr.fieldAt s (.pointer (some a)) f).run P w = .ok (.pointer (some (a.add off))) w := by
 unfold qj6 at h
 split at h
 ·rename_i fs hu
  split at h
  ·rename_i fl hf
   split at h
   ·rename_i i hi
    split at h
    ·cases h
    ·rename_i hz
     injection h with h; subst h
     simp [Instr.fieldAt, run_underlying hu, hf, Instr.sureAddr, fieldPlace, sizeOf, typeInfo, hi, hz]
   ·cases h
  ·cases h
 ·cases h
def qj7 (P : Program) (σ : List (Nat × Value)) : Op → Option Value
 | .move x => look σ x
 | .assign x => look σ x
 | .pick c a b => match look σ c with
  | some (.bool true) => look σ a
  | some (.bool false) => look σ b
  | _ => none
 | .extract t i => match look σ t with
  | some (.tuple vs) => vs[i]?
  | _ => none
 | .unOp .not _ x => match look σ x with
  | some (.bool b) => some (.bool !b)
  | _ => none
 | .binOp op _ x y _ => match look σ x, look σ y with
  | some a, some b => if qri a then qk9 op a b else none
  | _, _ => none
 | .convert src dst x => match P.underlying src, P.underlying dst, look σ x with
  | some _, some (.int k), some (.int _ m) => some (.int k (k.wrap m))
  | _, _, _ => none
 | .fieldAddr s x f => match look σ x, qj6 P s f with
  | some (.pointer (some a)), some off => some (.pointer (some (a.add off)))
  | _, _ => none
 | _ => none
theorem qmy {P : Program} {a : Act} {n : Nat} {D : List Deferred} {σ : List (Nat × Value)} (h : Fr a n D σ) {o : Oper} {v : Value} (hv : qj7 P σ o.op = some v) (w : World) : (execOp a.eval o).run P w = .ok (.value v) w := by
 unfold execOp
 unfold qj7 at hv
 split at hv
 ·rename_i x hop; simp only [hop, h.eval hv]; rfl
 ·rename_i x hop; simp only [hop, h.eval hv]; rfl
 ·rename_i c x y hop
  split at hv
  ·rename_i hc; simp only [hop, h.eval hc, h.eval hv]; rfl
  ·rename_i hc; simp only [hop, h.eval hc, h.eval hv]; rfl
  ·cases hv
 ·rename_i t i hop
  split at hv
  ·rename_i vs ht; simp only [hop, h.eval ht, Instr.extract, hv]; rfl
  ·cases hv
 ·rename_i t x hop
  split at hv
  ·rename_i b hx; injection hv with hv; subst hv; simp only [hop, h.eval hx, Op.unary]; rfl
  ·cases hv
 ·rename_i op t x y u hop
  split at hv
  ·rename_i p q hx hy
   split at hv
   ·rename_i hn
    simp [hop, h.eval hx, h.eval hy, qa2 op t x y hn, qen hv t]
   ·cases hv
  ·cases hv
 ·rename_i src dst x hop
  split at hv
  ·rename_i ds k k' m hs hu hx
   injection hv with hv; subst hv
   simp [hop, h.eval hx, convert, run_underlying hs, run_underlying hu, Conv.intToInt]
  ·cases hv
 ·rename_i s x f hop
  split at hv
  ·rename_i ad off hx hf
   injection hv with hv; subst hv
   simp [hop, h.eval hx, qla hf]
  ·cases hv
 ·cases hv
abbrev vI (x : Int) : Value := .int .i64 x
abbrev vB (x : Int) : Value := .int .u8 x
abbrev vQ (x : Int) : Value := .int .u64 x
abbrev vW (x : Int) : Value := .int .u32 x
abbrev vP (g o : Nat) : Value := .pointer (some ⟨g, o, none⟩)
abbrev vS (g n c : Nat) : Value := .slice (some ⟨g, 0, none⟩) n c
inductive Fact
 | blk (g : Nat) (cs : Array Value) (t : TypeId)
 | row (v : Value) (n : Nat) (xs : List Value) (e : TypeId) (size : Nat)
 | obj (g : Nat) (o : Obj)
def Fact.block : Fact → Option Nat
 | .obj g _ => some g
 | .blk g _ _ => some g
 | .row v _ _ _ _ => v.ownBlock
def Fact.holds (base : Nat) (w : World) : Fact → Prop
 | .obj g o => base ≤ g ∧ w.heap[g]? = some o
 | .blk g cs t => base ≤ g ∧ w.heap[g]? = some (.cells cs t (0, 0))
 | .row v n xs e size => w.ownsRow base e size v n xs
def Fact.apart (f g : Fact) : Prop := ∀ x, f.block = some x → g.block ≠ some x
structure Mem (W w : World) (fs : List Fact) : Prop where
 below : Below W.heap.size W w
 holds : ∀ f ∈ fs, f.holds W.heap.size w
 apart : fs.Pairwise Fact.apart
theorem Fact.apart.symm {f g : Fact} (h : f.apart g) : g.apart f := fun x hx hf => h x hf hx
theorem qhs {w : World} {base : Nat} {e : TypeId} {size : Nat} {v : Value} {n : Nat} {xs : List Value} (h : w.ownsRow base e size v n xs) {g : Nat} (hg : v.ownBlock = some g) : base ≤ g ∧ g < w.heap.size := by
 rcases h.2 with ⟨rfl, _⟩ | ⟨g', cap, cur, rfl, hb, hg', _⟩
 ·cases hg
 ·cases hg; exact ⟨hb, qah hg'⟩
theorem Fact.holds.lt {base : Nat} {w : World} {f : Fact} (h : f.holds base w) {g : Nat} (hg : f.block = some g) : base ≤ g ∧ g < w.heap.size := by
 cases f with
 | blk g' cs t => injection hg with hg; subst hg; exact ⟨h.1, qah h.2⟩
 | row v n xs e size => exact qhs h hg
 | obj g' o => injection hg with hg; subst hg; exact ⟨h.1, qah h.2⟩
theorem Fact.holds.keep {base : Nat} {w w' : World} {f : Fact} (h : f.holds base w) (hk : ∀ g, f.block = some g → w'.heap[g]? = w.heap[g]?) : f.holds base w' := by
 cases f with
 | obj g o => exact ⟨h.1, (hk g rfl).trans h.2⟩
 | blk g cs t => exact ⟨h.1, (hk g rfl).trans h.2⟩
 | row v n xs e size =>
  refine ⟨h.1, ?_⟩
  rcases h.2 with h1 | ⟨g, cap, cur, rfl, hb, hg, r⟩
  ·exact .inl h1
  ·exact .inr ⟨g, cap, cur, rfl, hb, (hk g rfl).trans hg, r⟩
section
variable {W w w' : World} {fs fs' : List Fact}
theorem Mem.start (W : World) : Mem W W [] := ⟨Below.refl _ _, by simp, .nil⟩
theorem Mem.size (h : Mem W w fs) : W.heap.size ≤ w.heap.size := h.below.size
theorem Mem.call (h : Mem W w fs) (hb : Below w.heap.size w w') : Mem W w' fs :=
 ⟨h.below.trans (hb.mono h.size), fun f hf => (h.holds f hf).keep fun g hg => hb.block g ((h.holds f hf).lt hg).2, h.apart⟩
theorem Mem.drew (h : Mem W w fs) : Mem W w.drew fs := h.call (Below.refl _ _).drew
theorem Mem.cons (h : Mem W w fs) {f : Fact} (hf : f.holds W.heap.size w) (hn : ∀ g, f.block = some g → ∀ k ∈ fs, k.block ≠ some g) : Mem W w (f :: fs) :=
 ⟨h.below, fun k hk => by
  rcases List.mem_cons.1 hk with rfl | hk
  ·exact hf
  ·exact h.holds k hk, List.pairwise_cons.2 ⟨fun k hk g hg => hn g hg k hk, h.apart⟩⟩
theorem Mem.nil (h : Mem W w fs) (e : TypeId) (size : Nat) : Mem W w (.row (.slice none 0 0) 0 [] e size :: fs) :=
 h.cons (World.ownsRow_nil _ _ _ _) (fun g hg => by cases hg)
theorem Mem.callRow (h : Mem W w fs) (hb : Below w.heap.size w w') {e : TypeId} {size n : Nat} {v : Value} {xs : List Value} (hr : w'.ownsRow w.heap.size e size v n xs) : Mem W w' (.row v n xs e size :: fs) :=
 (h.call hb).cons (qfl hr h.size) (fun g hg k hk hkg => by
  have h1 := (qhs hr hg).1
  have h2 := ((h.holds k hk).lt hkg).2
  omega)
theorem Mem.alloc (h : Mem W w fs) (cs : Array Value) (t : TypeId) : Mem W (w.alloc (.cells cs t)) (.blk w.heap.size cs t :: fs) :=
 (h.call ((Below.refl _ _).alloc (Nat.le_refl _) _)).cons ⟨h.size, World.alloc_heap_new w _⟩ (fun g hg k hk hkg => by
  injection hg with hg
  have h2 := ((h.holds k hk).lt hkg).2
  omega)
theorem Mem.allocObj (h : Mem W w fs) (o : Obj) : Mem W (w.alloc o) (.obj w.heap.size o :: fs) :=
 (h.call ((Below.refl _ _).alloc (Nat.le_refl _) _)).cons ⟨h.size, World.alloc_heap_new w _⟩ (fun g hg k hk hkg => by
  injection hg with hg
  have h2 := ((h.holds k hk).lt hkg).2
  omega)
def picks (fs : List Fact) (is : List Nat) : List Fact := is.filterMap (fs[·]?)
theorem qb4 (h : fs.Pairwise Fact.apart) : ∀ {is : List Nat}, is.Nodup → (picks fs is).Pairwise Fact.apart
 | [], _ => .nil
 | i :: is, hn => by
  rw [List.nodup_cons] at hn
  unfold picks
  rw [List.filterMap_cons]
  cases hi : fs[i]? with
  | none => exact qb4 h hn.2
  | some f =>
   refine List.pairwise_cons.2 ⟨fun k hk => ?_, qb4 h hn.2⟩
   obtain ⟨j, hj, hjk⟩ := List.mem_filterMap.1 hk
   have hij : i ≠ j := fun e => hn.1 (e ▸ hj)
   obtain ⟨hil, hif⟩ := List.getElem?_eq_some_iff.1 hi
   obtain ⟨hjl, hjf⟩ := List.getElem?_eq_some_iff.1 hjk
   rcases Nat.lt_or_gt_of_ne hij with h1 | h1
   ·have := List.pairwise_iff_getElem.1 h i j hil hjl h1
    rwa [hif, hjf] at this
   ·have := List.pairwise_iff_getElem.1 h j i hjl hil h1
    rw [hif, hjf] at this
    exact this.symm
theorem Mem.picks (h : Mem W w fs) (is : List Nat) (hn : is.Nodup) (he : picks fs is = fs') : Mem W w fs' := by
 subst he
 refine ⟨h.below, fun f hf => ?_, qb4 h.apart hn⟩
 obtain ⟨j, _, hj⟩ := List.mem_filterMap.1 hf
 exact h.holds f (List.mem_of_getElem? hj)
theorem Mem.turn (h : Mem W w fs) {i : Nat} {f f' : Fact} (hi : fs[i]? = some f) (hb : Below W.heap.size W w') (hk : ∀ g, g < w.heap.size → f.block ≠ some g → w'.heap[g]? = w.heap[g]?)
  (hf : f'.holds W.heap.size w') (hn : ∀ g, f'.block = some g → f.block = some g ∨ w.heap.size ≤ g) : Mem W w' (fs.set i f') := by
 obtain ⟨hil, hif⟩ := List.getElem?_eq_some_iff.1 hi
 have hother : ∀ j (hj : j < fs.length), j ≠ i → Fact.apart fs[j] f ∧ Fact.apart f fs[j] := fun j hj hji => by
  rcases Nat.lt_or_gt_of_ne hji with h1 | h1
  ·have := List.pairwise_iff_getElem.1 h.apart j i hj hil h1
   rw [hif] at this
   exact ⟨this, this.symm⟩
  ·have := List.pairwise_iff_getElem.1 h.apart i j hil hj h1
   rw [hif] at this
   exact ⟨this.symm, this⟩
 have hnew : ∀ j (hj : j < fs.length), j ≠ i → Fact.apart f' fs[j] := fun j hj hji g hg hg' => by
  rcases hn g hg with h1 | h1
  ·exact (hother j hj hji).2 g h1 hg'
  ·have := ((h.holds _ (List.getElem_mem hj)).lt hg').2
   omega
 refine ⟨hb, fun k hkm => ?_, ?_⟩
 ·obtain ⟨j, hj, hjk⟩ := List.getElem_of_mem hkm
  rw [List.getElem_set] at hjk
  rw [List.length_set] at hj
  split at hjk
  ·subst hjk; exact hf
  ·rename_i hne
   subst hjk
   have hh := h.holds _ (List.getElem_mem hj)
   exact hh.keep fun g hg => hk g (hh.lt hg).2 (fun e => (hother j hj (Ne.symm hne)).1 g hg e)
 ·rw [List.pairwise_iff_getElem]
  intro p q hp hq hpq
  rw [List.length_set] at hp hq
  rw [List.getElem_set, List.getElem_set]
  split
  ·rename_i e
   subst e
   rw [if_neg (by omega)]
   exact hnew q hq (by omega)
  ·split
   ·rename_i e
    subst e
    exact (hnew p hp (by omega)).symm
   ·exact List.pairwise_iff_getElem.1 h.apart p q hp hq hpq
theorem Mem.blk (h : Mem W w fs) {i g : Nat} {cs : Array Value} {t : TypeId} (hi : fs[i]? = some (.blk g cs t)) : w.heap[g]? = some (.cells cs t (0, 0)) := (h.holds _ (List.mem_of_getElem? hi)).2
theorem Mem.cell (h : Mem W w fs) {i g o : Nat} {cs : Array Value} {t : TypeId} {v : Value} (hi : fs[i]? = some (.blk g cs t)) (hc : cs[o]? = some v) : w.cell? ⟨g, o, none⟩ = some v := by
 simp [World.cell?, h.blk hi, hc]
theorem Mem.own (h : Mem W w fs) {i : Nat} {v : Value} {n : Nat} {xs : List Value} {e : TypeId} {size : Nat} (hi : fs[i]? = some (.row v n xs e size)) : w.ownsRow W.heap.size e size v n xs := h.holds _ (List.mem_of_getElem? hi)
theorem Mem.rd (h : Mem W w fs) {i : Nat} {A : Option Addr} {n c : Nat} {xs : List Value} {e : TypeId} {size : Nat} (hi : fs[i]? = some (.row (.slice A n c) n xs e size)) : Rd w w.heap.size size A n xs := Rd.qim (h.own hi) rfl
theorem Mem.old (h : Mem W w fs) {size : Nat} {A : Option Addr} {n : Nat} {xs : List Value} (hr : Rd W W.heap.size size A n xs) : Rd w w.heap.size size A n xs := (hr.below h.below).more h.size
theorem Rd.qyz {w : World} {g : Nat} {cs : Array Value} {t : TypeId} (hb : w.heap[g]? = some (.cells cs t (0, 0))) {size n : Nat} (hn : cs.size = n * size) : Rd w w.heap.size size (some ⟨g, 0, none⟩) n cs.toList :=
 ⟨by simpa using hn, fun _ => ⟨_, rfl, qah hb, fun j u hu => by
  rw [Addr.add_mid, Nat.zero_add]
  simp only [World.cell?, hb]
  simpa using hu⟩⟩
theorem Mem.rdBlk (h : Mem W w fs) {i g : Nat} {cs : Array Value} {t : TypeId} {size n : Nat} (hi : fs[i]? = some (.blk g cs t)) (hn : cs.size = n * size) : Rd w w.heap.size size (some ⟨g, 0, none⟩) n cs.toList := Rd.qyz (h.blk hi) hn
theorem Mem.blkRow (h : Mem W w fs) {i g : Nat} {cs : Array Value} {e : TypeId} {size n : Nat} (hi : fs[i]? = some (.blk g cs e)) (hn : cs.size = n * size) (hm : n ≤ 9223372036854775807) : Mem W w (fs.set i (.row (.slice (some ⟨g, 0, none⟩) n n) n cs.toList e size)) := by
 have hb := h.holds _ (List.mem_of_getElem? hi)
 refine h.turn hi h.below (fun _ _ _ => rfl) ⟨by simpa using hn, .inr ⟨g, n, cs, rfl, hb.1, hb.2, Nat.le_refl _, by unfold maxLen; exact hm, hn, ?_⟩⟩ (fun g' hg' => .inl hg')
 rw [← hn, ← Array.length_toList, List.take_length]
theorem Mem.set (h : Mem W w fs) {i g o : Nat} {cs : Array Value} {t : TypeId} (hi : fs[i]? = some (.blk g cs t)) (v : Value) : Mem W (w.setCell ⟨g, o, none⟩ v) (fs.set i (.blk g (cs.setIfInBounds o v) t)) := by
 have hb := h.holds _ (List.mem_of_getElem? hi)
 refine h.turn hi (h.below.setCell (p := ⟨g, o, none⟩) hb.1 v) (fun k hk hne => ?_) ⟨hb.1, ?_⟩ (fun g' hg' => .inl hg')
 ·exact Below.heap_setCell _ _ _ _ (fun e => hne (by rw [e]; rfl))
 ·simp [World.setCell, Array.getElem?_modify, hb.2]
theorem Mem.setAll (h : Mem W w fs) {i g : Nat} {cs ds : Array Value} {t : TypeId} (hi : fs[i]? = some (.blk g cs t)) (hs : cs.size = ds.size) : Mem W (w.setCells g 0 ds.toList) (fs.set i (.blk g ds t)) := by
 have hb := h.holds _ (List.mem_of_getElem? hi)
 refine h.turn hi (below_setCells h.below hb.1 0 _) (fun k hk hne => ?_) ⟨hb.1, ?_⟩ (fun g' hg' => .inl hg')
 ·exact qap _ _ _ _ _ (fun e => hne (by rw [e]; rfl))
 ·have := qc2 hb.2 ds.toList (by simpa using hs)
  simpa using this
theorem Mem.append (h : Mem W w fs) {i n : Nat} {v v' : Value} {xs ys : List Value} {e : TypeId} {size n' : Nat} (hi : fs[i]? = some (.row v n xs e size)) (ho : w'.ownsRow W.heap.size e size v' n' ys) (hg : w.grownBy w' v.ownBlock)
  (hb : v'.ownBlock = v.ownBlock ∨ v'.ownBlock = some w.heap.size) : Mem W w' (fs.set i (.row v' n' ys e size)) := by
 have hv := h.own hi
 refine h.turn hi (h.below.grown hg h.size (fun g hgb => (qhs hv hgb).1)) (fun g hgl hne => hg.block g hgl (fun e => hne e.symm)) ho (fun g hgb => ?_)
 have hgb' : v'.ownBlock = some g := hgb
 rcases hb with h1 | h1
 ·exact .inl (show v.ownBlock = some g by rw [← h1]; exact hgb')
 ·rw [h1] at hgb'; injection hgb' with e; exact .inr (by omega)
end
def qbl (P : Program) (ops : Array Oper) (Q : Exit → Act → World → Prop) (i : Nat) (a : Act) (w : World) : Prop := wpList P ops Q (ops.toList.drop i) a w
def Yl (P : Program) (S : World → Prop) (σ : List (Nat × Value)) (o : Oper) (v : Value) : Prop := ∀ (a : Act) (n : Nat) (D : List Deferred), Fr a n D σ → ∀ w, S w → (execOp a.eval o).run P w = .ok (.value v) w
section
variable {P : Program} {ops : Array Oper} {Q : Exit → Act → World → Prop} {a : Act} {w : World} {n i j d fuel : Nat} {D : List Deferred} {σ σ' : List (Nat × Value)} {o : Oper} {v : Value} {md : Region.Mode} {S : World → Prop} {K : Act → World → Prop} {listed : Array Bool}
theorem qa {id : Nat} (h : qbl P ops Q 0 a w) : (Code.region id ops false).wp P Q a w := wp_region_list (by simpa [qbl] using h)
theorem qb (hi : ops.size = i) (h : Q .normal a w) : qbl P ops Q i a w := by
 unfold qbl
 rw [List.drop_of_length_le (by simp [hi])]
 exact h
theorem qrj (HF : Fr a n D σ) (ho : ops[i]? = some o) (hw : wantB ops σ o = some true) (h : o.wp P a w (qbl P ops Q (i + 1)) Q) : qbl P ops Q i a w := by
 obtain ⟨hl, he⟩ := Array.getElem?_eq_some_iff.1 ho
 unfold qbl
 rw [List.drop_eq_getElem_cons (by simpa using hl), Array.getElem_toList, he]
 unfold wpList
 rw [if_pos (qda HF hw)]
 exact .inl h
theorem qrk (HF : Fr a n D σ) (ho : ops[i]? = some o) (hw : wantB ops σ o = some false) (hd : o.dst = some d) (hdn : d < n) (k : ∀ a', Fr a' n D ((d, undef) :: σ) → qbl P ops Q (i + 1) a' w) : qbl P ops Q i a w := by
 obtain ⟨hl, he⟩ := Array.getElem?_eq_some_iff.1 ho
 unfold qbl
 rw [List.drop_eq_getElem_cons (by simpa using hl), Array.getElem_toList, he]
 unfold wpList
 rw [if_neg (by rw [qda HF hw]; simp), hd]
 exact k _ (HF.put hdn _)
theorem Yl.wp (hy : Yl P S σ o v) (HF : Fr a n D σ) (hS : S w) (hd : o.dst = some d) (hdn : d < n) (k : ∀ a', Fr a' n D ((d, v) :: σ) → K a' w) : o.wp P a w K Q := by
 unfold Oper.wp
 rw [hy a n D HF w hS, Oper.upon_value, hd]
 exact k _ (HF.put hdn _)
theorem qrl (HF : Fr a n D σ) (hS : S w) (ho : ops[i]? = some o) (hw : wantB ops σ o = some true) (hd : o.dst = some d) (hdn : d < n) (hy : Yl P S σ o v) (k : ∀ a', Fr a' n D ((d, v) :: σ) → qbl P ops Q (i + 1) a' w) : qbl P ops Q i a w :=
 qrj HF ho hw (hy.wp HF hS hd hdn k)
theorem Yl.pure (h : qj7 P σ o.op = some v) : Yl P S σ o v := fun _ _ _ HF w _ => qmy HF h w
def qdn (P : Program) (ops : Array Oper) (n i : Nat) (σ : List (Nat × Value)) : Option (List (Nat × Value)) :=
 match ops[i]? with
 | none => none
 | some o => match wantB ops σ o, o.dst with
  | some true, some d => if d < n then match qj7 P σ o.op with
   | some v => some ((d, v) :: σ)
   | none => none else none
  | some false, some d => if d < n then some ((d, undef) :: σ) else none
  | _, _ => none
def qcb (P : Program) (ops : Array Oper) (n : Nat) : Nat → Nat → List (Nat × Value) → Option (List (Nat × Value))
 | 0, _, σ => some σ
 | m + 1, i, σ => match qdn P ops n i σ with
  | none => none
  | some σ' => qcb P ops n m (i + 1) σ'
theorem qht : ∀ (m i : Nat) {j : Nat} {a : Act} {σ : List (Nat × Value)}, Fr a n D σ → qcb P ops n m i σ = some σ' → i + m = j → (∀ a', Fr a' n D σ' → qbl P ops Q j a' w) → qbl P ops Q i a w
 | 0, i, j, a, σ, HF, h, hj, k => by
  injection h with h
  subst h
  have e : i = j := hj
  subst e
  exact k a HF
 | m + 1, i, j, a, σ, HF, h, hj, k => by
  unfold qcb at h
  split at h
  ·cases h
  ·rename_i σ1 h1
   have rest := fun a' HF' => qht m (i + 1) (a := a') (σ := σ1) HF' h (by omega) k
   unfold qdn at h1
   split at h1
   ·cases h1
   ·rename_i o ho
    split at h1
    ·rename_i d hw hd
     split at h1
     ·rename_i hdn
      split at h1
      ·rename_i v hv
       injection h1 with h1
       subst h1
       exact qrl (S := fun _ => True) HF trivial ho hw hd hdn (Yl.pure hv) rest
      ·cases h1
     ·cases h1
    ·rename_i d hw hd
     split at h1
     ·rename_i hdn
      injection h1 with h1
      subst h1
      exact qrk HF ho hw hd hdn rest
     ·cases h1
    ·cases h1
theorem Fr.sp {v : Value} (h : Fr a n D σ) (t : Nat) (u : Value) (hl : σ.lookup t = some v) (e : v = u) : Fr a n D ((t, u) :: σ) := by
 subst e
 refine ⟨h.size, h.defers, fun s x hx => ?_⟩
 rw [List.lookup_cons] at hx
 split at hx
 ·rename_i hs
  rw [beq_iff_eq] at hs
  subst hs
  injection hx with hx
  subst hx
  exact h.slot _ _ hl
 ·exact h.slot _ _ hx
theorem Fr.to (h : Fr a n D σ) (σ' : List (Nat × Value)) (hs : σ'.map (fun p => σ.lookup p.1) = σ'.map (fun p => some p.2) := by kernel_rfl) : Fr a n D σ' := h.sub hs
theorem Fr.on {b c : Bool} (h : Fr a n D σ) (t : Nat) (hb : b = c) (hl : σ.lookup t = some (.bool b) := by rfl) : Fr a n D ((t, .bool c) :: σ) := by
 subst hb
 refine ⟨h.size, h.defers, fun s x hx => ?_⟩
 rw [List.lookup_cons] at hx
 split at hx
 ·rename_i hs
  rw [beq_iff_eq] at hs
  subst hs
  injection hx with hx
  subst hx
  exact h.slot _ _ hl
 ·exact h.slot _ _ hx
theorem Fr.tf {b : Bool} (h : Fr a n D σ) (t : Nat) (hl : σ.lookup t = some (.bool b)) : (b = true ∧ Fr a n D ((t, .bool true) :: σ)) ∨ (b = false ∧ Fr a n D ((t, .bool false) :: σ)) := by
 cases b
 ·exact .inr ⟨rfl, h.on t rfl hl⟩
 ·exact .inl ⟨rfl, h.on t rfl hl⟩
theorem qg1 {i : Nat} {s : List (Nat × Value)} (h : qdn P ops n i σ = some s) : ∃ p, s = p :: σ := by
 unfold qdn at h
 split at h
 ·cases h
 ·split at h
  ·split at h
   ·split at h
    ·injection h with h; exact ⟨_, h.symm⟩
    ·cases h
   ·cases h
  ·split at h
   ·injection h with h; exact ⟨_, h.symm⟩
   ·cases h
  ·cases h
theorem qfr : ∀ (m i : Nat) {σ s : List (Nat × Value)}, qcb P ops n m i σ = some s → ∃ full, s = full ++ σ
 | 0, _, σ, s, h => by injection h with h; exact ⟨[], h.symm⟩
 | m + 1, i, σ, s, h => by
  cases h1 : qdn P ops n i σ with
  | none => rw [qcb, h1] at h; cases h
  | some s1 =>
   rw [qcb, h1] at h
   obtain ⟨p, rfl⟩ := qg1 h1
   obtain ⟨full, hf⟩ := qfr m (i + 1) h
   exact ⟨full ++ [p], by rw [hf]; simp⟩
def thin (s σ new : List (Nat × Value)) : Bool := (s.take (s.length - σ.length)).all fun p => (new.any fun q => q.1 == p.1) || !(σ.any fun q => q.1 == p.1)
theorem qgk {t : Nat} : ∀ {l m : List (Nat × Value)}, (l ++ m).lookup t = match l.lookup t with | some v => some v | none => m.lookup t
 | [], m => rfl
 | q :: l, m => by
  rw [List.cons_append, List.lookup_cons, List.lookup_cons]
  split
  ·rfl
  ·exact qgk
theorem qdo {t : Nat} {v : Value} : ∀ {l : List (Nat × Value)}, l.lookup t = some v → (l.any fun q => q.1 == t) = true
 | [], h => by cases h
 | q :: l, h => by
  rw [List.lookup_cons] at h
  split at h
  ·rename_i hb
   rw [beq_iff_eq] at hb
   simp [hb]
  ·simp only [List.any_cons, Bool.or_eq_true]
   exact .inr (qdo h)
theorem qhu {t : Nat} {l : List (Nat × Value)} (h : (l.any fun q => q.1 == t) = true) : ∃ p ∈ l, p.1 = t := by
 rw [List.any_eq_true] at h
 obtain ⟨p, h1, h2⟩ := h
 exact ⟨p, h1, by simpa using h2⟩
theorem Fr.thin {s full new : List (Nat × Value)} (h : Fr a n D s) (hs : s = full ++ σ) (ht : Go.Proofs.YtnakabnmjnfpcaaGreatDoor.thin s σ new = true) (hn : new.map (fun p => s.lookup p.1) = new.map (fun p => some p.2)) : Fr a n D (new ++ σ) := by
 have h1 := h.sub hn
 refine ⟨h.size, h.defers, fun t v hv => ?_⟩
 rw [qgk] at hv
 cases hl : new.lookup t with
 | some u =>
  rw [hl] at hv
  injection hv with hv
  subst hv
  exact h1.slot t u hl
 | none =>
  rw [hl] at hv
  have hv : σ.lookup t = some v := hv
  refine h.slot t v ?_
  rw [hs, qgk]
  cases hf : full.lookup t with
  | none => exact hv
  | some u =>
   exfalso
   unfold Go.Proofs.YtnakabnmjnfpcaaGreatDoor.thin at ht
   have hlen : s.take (s.length - σ.length) = full := by rw [hs, List.length_append, Nat.add_sub_cancel]; exact List.take_left
   rw [hlen, List.all_eq_true] at ht
   obtain ⟨p, hp1, hp2⟩ := qhu (qdo hf)
   have := ht p hp1
   rw [hp2, qdo hv] at this
   simp only [Bool.not_true, Bool.or_false] at this
   obtain ⟨q, hq1, hq2⟩ := qhu this
   have h3 : new.lookup t ≠ none := by
    intro h4
    have h5 : ∀ (l : List (Nat × Value)), q ∈ l → l.lookup t ≠ none := by
     intro l
     induction l with
     | nil => intro h6; cases h6
     | cons r l ih =>
      intro h6
      rw [List.lookup_cons]
      split
      ·simp
      ·rename_i hb
       rcases List.mem_cons.1 h6 with rfl | h6
       ·exfalso; rw [hq2] at hb; simp at hb
       ·exact ih h6
    exact h5 new hq1 h4
   exact h3 hl
theorem fp (HF : Fr a n D σ) (m i : Nat) (new : List (Nat × Value)) (k : ∀ a', Fr a' n D (new ++ σ) → qbl P ops Q (i + m) a' w) (h : (qcb P ops n m i σ).map (fun s => (thin s σ new, new.map fun p => s.lookup p.1)) = some (true, new.map fun p => some p.2) := by kernel_rfl) : qbl P ops Q i a w := by
 cases hs : qcb P ops n m i σ with
 | none => rw [hs] at h; cases h
 | some s =>
  rw [hs] at h
  injection h with h
  injection h with h1 h2
  obtain ⟨full, hf⟩ := qfr m i hs
  exact qht m i HF hs rfl fun a' HF' => k a' (HF'.thin hf h1 h2)
theorem fo (HF : Fr a n D σ) (i : Nat) (ho : ops[i]? = some o) (hw : wantB ops σ o = some true) (h : o.wp P a w (qbl P ops Q (i + 1)) Q) : qbl P ops Q i a w := qrj HF ho hw h
theorem fy {W : World} {fs : List Fact} (HF : Fr a n D σ) (HM : Mem W w fs) (i : Nat) (ho : ops[i]? = some o) (hw : wantB ops σ o = some true) (hd : o.dst = some d) (hy : Yl P (fun wS => Mem W wS fs) σ o v) (k : ∀ a', Fr a' n D ((d, v) :: σ) → qbl P ops Q (i + 1) a' w) (hdn : d < n := by decide) : qbl P ops Q i a w :=
 qrl (S := fun wS => Mem W wS fs) HF HM ho hw hd hdn hy k
def pastB (ex : List Nat) (listed : Array Bool) : Bool := ex.any fun j => listed.getD j false
def qaz (P : Program) (md : Region.Mode) (ops : Array Oper) (Q : Exit → Act → World → Prop) (S : World → Prop) (ex : List Nat) : Nat → Array Bool → Act → World → Prop
 | 0, listed, a, w => Region.ready md ops listed = [] ∧ Q .normal a w
 | fuel + 1, listed, a, w =>
  (Region.ready md ops listed = [] → Q .normal a w) ∧
  ∀ i ∈ Region.ready md ops listed, wpOp P ops Q i (fun a' w' => (pastB ex (listed.setIfInBounds i true) = false → S w') ∧ qaz P md ops Q S ex fuel (listed.setIfInBounds i true) a' w') a w
theorem qfs {ex : List Nat} : ∀ (fuel : Nat) (listed : Array Bool) (a : Act) (w : World), qaz P md ops Q S ex fuel listed a w → wpAny P md ops Q fuel listed a w
 | 0, _, _, _, h => h
 | fuel + 1, _, _, _, h => ⟨h.1, fun i hi => wpOp_mono (fun a' w' h' => qfs fuel _ a' w' h'.2) (h.2 i hi)⟩
def exOk (md : Region.Mode) (ops : Array Oper) (ex : List Nat) (i : Nat) : Bool := ex.all fun j => match ops[j]? with
 | some o => o.after.any fun e => Region.binds md e && e.on == i
 | none => true
theorem qlb {ex : List Nat} {l : Array Bool} {i : Nat} (h : ex.contains i = false) : pastB ex (l.setIfInBounds i true) = pastB ex l := by
 unfold pastB
 rw [Bool.eq_iff_iff, List.any_eq_true, List.any_eq_true]
 have hne : ∀ j ∈ ex, i ≠ j := fun j hj e => by
  subst e
  have : ex.contains i = true := by simpa using hj
  rw [h] at this; cases this
 constructor
 ·rintro ⟨j, hj, hl⟩; exact ⟨j, hj, by rwa [getD_set_ne false (hne j hj)] at hl⟩
 ·rintro ⟨j, hj, hl⟩; exact ⟨j, hj, by rwa [getD_set_ne false (hne j hj)]⟩
theorem qgl {ex : List Nat} {l : Array Bool} {i : Nat} (h : pastB ex (l.setIfInBounds i true) = false) : pastB ex l = false := by
 cases hp : pastB ex l with
 | false => rfl
 | true =>
  unfold pastB at h hp
  obtain ⟨j, hj, hl⟩ := List.any_eq_true.1 hp
  rw [List.any_eq_false] at h
  exact absurd (getD_set_true (i := i) hl) (h j hj)
theorem qgm {ex : List Nat} {oi : Oper} {T : World → Prop} (hi : ops[i]? = some oi) (hsel : ∀ (j : Nat) (o : Oper) cs b, ops[j]? = some o → o.op ≠ .select cs b)
  (hQ : ∀ c (a : Act) w, Q (.panic c) (a.put oi.dst v) w → Q (.panic c) a w) (hiex : ex.contains i = false) :
  ∀ (fuel : Nat) (listed : Array Bool) (a : Act) (w : World), ((∀ w, T w) ∨ (T = S ∧ exOk md ops ex i = true ∧ pastB ex listed = false)) →
   (∀ j oj, ops[j]? = some oj → j ≠ i → listed.getD j true = false → (∀ e ∈ oj.after, Region.binds md e = true → e.on ≠ i) → oi.apart ops oj = true) →
   i ∈ Region.ready md ops listed → YieldsIf P ops T oi v a → (pastB ex listed = false → S w) →
   qaz P md ops Q S ex fuel (listed.setIfInBounds i true) (a.put oi.dst v) w → qaz P md ops Q S ex (fuel + 1) listed a w := by
 intro fuel
 induction fuel with
 | zero =>
  intro listed a w hx _ hr hy hS H
  have hT : T w := by rcases hx with h | ⟨h, _, hp⟩ <;> first | exact h w | (rw [h]; exact hS hp)
  refine ⟨fun h => (by rw [h] at hr; cases hr), fun j hj => ?_⟩
  by_cases hji : j = i
  ·subst hji; exact hy.wpOp hi hT ⟨fun hp => hS (qgl hp), H⟩
  ·have := ready_mono hj hji
   rw [H.1] at this
   cases this
 | succ fuel ih =>
  intro listed a w hx hfree hr hy hS H
  have hT : T w := by rcases hx with h | ⟨h, _, hp⟩ <;> first | exact h w | (rw [h]; exact hS hp)
  refine ⟨fun h => (by rw [h] at hr; cases hr), fun j hj => ?_⟩
  by_cases hji : j = i
  ·subst hji; exact hy.wpOp hi hT ⟨fun hp => hS (qgl hp), H⟩
  ·have h1 := H.2 j (ready_mono hj hji)
   obtain ⟨hjun, oj, hoj, hall⟩ := mem_ready.1 hj
   have hnot : ∀ e ∈ oj.after, Region.binds md e = true → e.on ≠ i := fun e he hb heq => by
    have h1 := hall e he hb
    have h0 := (mem_ready.1 hr).1
    rw [heq] at h1
    rcases Nat.lt_or_ge i listed.size with h' | h'
    ·simp [h'] at h0 h1; rw [h0] at h1; cases h1
    ·simp [Array.getElem?_eq_none h'] at h1
   have hx' : (∀ w, T w) ∨ (T = S ∧ exOk md ops ex i = true ∧ pastB ex (listed.setIfInBounds j true) = false) := by
    rcases hx with h | ⟨h, h2, h3⟩
    ·exact .inl h
    ·refine .inr ⟨h, h2, ?_⟩
     rw [qlb ?_]
     ·exact h3
     ·cases hc : ex.contains j with
      | false => rfl
      | true =>
       have hm : j ∈ ex := by simpa using hc
       have h2 := List.all_eq_true.1 h2 j hm
       rw [hoj] at h2
       obtain ⟨e, he, hb⟩ := Array.any_eq_true'.1 h2
       rw [Bool.and_eq_true, beq_iff_eq] at hb
       exact absurd hb.2 (hnot e he hb.1)
   have h2 := wpOp_putIf hoj (hfree j oj hoj hji hjun hnot) (fun cs b => hsel i oi cs b hi) (fun cs b => hsel j oj cs b hoj) hQ hy h1
   have hfree' : ∀ k ok, ops[k]? = some ok → k ≠ i → (listed.setIfInBounds j true).getD k true = false →
     (∀ e ∈ ok.after, Region.binds md e = true → e.on ≠ i) → oi.apart ops ok = true := fun k ok hk hki hun hno => by
    refine hfree k ok hk hki ?_ hno
    by_cases hjk : j = k
    ·subst hjk; exact hjun
    ·rw [getD_set_ne true hjk] at hun; exact hun
   refine wpOp_mono (fun a' w' h3 => ?_) h2
   have hS' : pastB ex (listed.setIfInBounds j true) = false → S w' := fun hp => h3.2.1 (by rw [Array.setIfInBounds_comm _ _ (Ne.symm hji), qlb hiex]; exact hp)
   refine ⟨hS', ih (listed.setIfInBounds j true) a' w' hx' hfree' (ready_mono hr (Ne.symm hji)) h3.1 hS' ?_⟩
   rw [Array.setIfInBounds_comm _ _ hji]
   exact h3.2.2
section
variable {ex : List Nat}
theorem qrm {id : Nat} (hm : P.follows .mixedOrders = true) (S : World → Prop) (ex : List Nat) (h : qaz P .any ops Q S ex ops.size (Array.replicate ops.size false) a w.drew) : (Code.region id ops true).wp P Q a w :=
 wp_region_any hm (qfs _ _ _ _ h)
theorem zw {id : Nat} {W : World} {fs : List Fact} (HM : Mem W w fs) (fs' : List Fact) (is ex : List Nat) (h : Mem W w.drew fs → Mem W w.drew fs' → qaz P .any ops Q (fun wS => Mem W wS fs') ex ops.size (Array.replicate ops.size false) a w.drew)
  (hm : P.follows .mixedOrders = true := by kernel_rfl) (hn : is.Nodup := by decide) (he : picks fs is = fs' := by rfl) : (Code.region id ops true).wp P Q a w :=
 qrm hm _ ex (h HM.drew (HM.drew.picks is hn he))
def qrn (md : Region.Mode) (ops : Array Oper) (ex : List Nat) (listed : Array Bool) (i : Nat) : Bool :=
 Region.noSelect ops && (Region.free md ops listed i && ((Region.ready md ops listed).contains i && (!ex.contains i && (exOk md ops ex i && !pastB ex listed))))
def qlc (md : Region.Mode) (ops : Array Oper) (ex : List Nat) (listed : Array Bool) (i : Nat) : Bool :=
 Region.noSelect ops && (Region.free md ops listed i && ((Region.ready md ops listed).contains i && !ex.contains i))
theorem qx8 (HF : Fr a n D σ) (hS : S w) (ho : ops[i]? = some o) (hw : wantB ops σ o = some true) (hd : o.dst = some d) (hdn : d < n) (hok : qrn md ops ex listed i = true) (hQ : ∀ c (a : Act) w, Q (.panic c) (a.put o.dst v) w → Q (.panic c) a w) (hy : Yl P S σ o v)
  (k : ∀ a', Fr a' n D ((d, v) :: σ) → qaz P md ops Q S ex fuel (listed.setIfInBounds i true) a' w) : qaz P md ops Q S ex (fuel + 1) listed a w := by
 simp only [qrn, Bool.and_eq_true, Bool.not_eq_true'] at hok
 obtain ⟨h1, h2, h3, h4, h5, h6⟩ := hok
 exact qgm (T := S) ho (Region.noSelect_spec h1) hQ h4 fuel listed a w (.inr ⟨rfl, h5, h6⟩) (Region.free_spec ho h2) (by simpa using h3) (.inl ⟨qda HF hw, fun w hw => hy a n D HF w hw⟩) (fun _ => hS) (by rw [hd]; exact k _ (HF.put hdn _))
theorem qo (HF : Fr a n D σ) (hS : pastB ex listed = false → S w) (ho : ops[i]? = some o) (hw : wantB ops σ o = some true) (hd : o.dst = some d) (hdn : d < n) (hok : qlc md ops ex listed i = true) (hQ : ∀ c (a : Act) w, Q (.panic c) (a.put o.dst v) w → Q (.panic c) a w) (hy : ∀ S', Yl P S' σ o v)
  (k : ∀ a', Fr a' n D ((d, v) :: σ) → qaz P md ops Q S ex fuel (listed.setIfInBounds i true) a' w) : qaz P md ops Q S ex (fuel + 1) listed a w := by
 simp only [qlc, Bool.and_eq_true, Bool.not_eq_true'] at hok
 obtain ⟨h1, h2, h3, h4⟩ := hok
 exact qgm (T := fun _ => True) ho (Region.noSelect_spec h1) hQ h4 fuel listed a w (.inl fun _ => trivial) (Region.free_spec ho h2) (by simpa using h3) (.inl ⟨qda HF hw, fun w _ => hy (fun _ => True) a n D HF w trivial⟩) hS (by rw [hd]; exact k _ (HF.put hdn _))
theorem qui (HF : Fr a n D σ) (hS : pastB ex listed = false → S w) (ho : ops[i]? = some o) (hw : wantB ops σ o = some false) (hd : o.dst = some d) (hdn : d < n) (hok : qlc md ops ex listed i = true) (hQ : ∀ c (a : Act) w, Q (.panic c) (a.put o.dst undef) w → Q (.panic c) a w)
  (k : ∀ a', Fr a' n D ((d, undef) :: σ) → qaz P md ops Q S ex fuel (listed.setIfInBounds i true) a' w) : qaz P md ops Q S ex (fuel + 1) listed a w := by
 simp only [qlc, Bool.and_eq_true, Bool.not_eq_true'] at hok
 obtain ⟨h1, h2, h3, h4⟩ := hok
 exact qgm (T := fun _ => True) ho (Region.noSelect_spec h1) hQ h4 fuel listed a w (.inl fun _ => trivial) (Region.free_spec ho h2) (by simpa using h3) (.inr ⟨qda HF hw, rfl⟩) hS (by rw [hd]; exact k _ (HF.put hdn _))
def qdp (P : Program) (md : Region.Mode) (ops : Array Oper) (n : Nat) (ex : List Nat) : List Nat → Array Bool → List (Nat × Value) → Option (Array Bool × List (Nat × Value))
 | [], l, σ => some (l, σ)
 | i :: is, l, σ => if qlc md ops ex l i then match qdn P ops n i σ with
   | some σ' => qdp P md ops n ex is (l.setIfInBounds i true) σ'
   | none => none
  else none
theorem qi3 {listed' : Array Bool} (hQ : ∀ c (a : Act) d v w, Q (.panic c) (a.put d v) w → Q (.panic c) a w) :
  ∀ (is : List Nat) {a : Act} {σ : List (Nat × Value)} {listed : Array Bool}, Fr a n D σ → (pastB ex listed = false → S w) → qdp P md ops n ex is listed σ = some (listed', σ') → (∀ a', Fr a' n D σ' → qaz P md ops Q S ex fuel listed' a' w) → qaz P md ops Q S ex (fuel + is.length) listed a w
 | [], a, σ, listed, HF, _, h, k => by
  injection h with h
  injection h with h1 h2
  subst h1; subst h2
  exact k a HF
 | i :: is, a, σ, listed, HF, hS, h, k => by
  unfold qdp at h
  split at h
  ·rename_i hc
   split at h
   ·rename_i σ1 h1
    have rest := fun a' HF' => qi3 hQ is (a := a') (σ := σ1) HF' (fun hp => hS (qgl hp)) h k
    unfold qdn at h1
    split at h1
    ·cases h1
    ·rename_i o ho
     split at h1
     ·rename_i d hw hd
      split at h1
      ·rename_i hdn
       split at h1
       ·rename_i v hv
        injection h1 with h1
        subst h1
        exact qo HF hS ho hw hd hdn hc (fun c a w => hQ c a _ _ w) (fun _ => Yl.pure hv) rest
       ·cases h1
      ·cases h1
     ·rename_i d hw hd
      split at h1
      ·rename_i hdn
       injection h1 with h1
       subst h1
       exact qui HF hS ho hw hd hdn hc (fun c a w => hQ c a _ _ w) rest
      ·cases h1
     ·cases h1
   ·cases h
  ·cases h
theorem qg2 : ∀ (is : List Nat) {l l' : Array Bool} {σ s : List (Nat × Value)}, qdp P md ops n ex is l σ = some (l', s) → ∃ full, s = full ++ σ
 | [], _, _, σ, s, h => by injection h with h; injection h with _ h; exact ⟨[], h.symm⟩
 | i :: is, l, l', σ, s, h => by
  unfold qdp at h
  split at h
  ·split at h
   ·rename_i s1 h1
    obtain ⟨p, rfl⟩ := qg1 h1
    obtain ⟨full, hf⟩ := qg2 is h
    exact ⟨full ++ [p], by rw [hf]; simp⟩
   ·cases h
  ·cases h
theorem ap (HF : Fr a n D σ) (hS : pastB ex listed = false → S w) (is : List Nat) (listed' : Array Bool) (new : List (Nat × Value)) (k : ∀ a', Fr a' n D (new ++ σ) → qaz P md ops Q S ex fuel listed' a' w)
  (hQ : ∀ c (a : Act) d v w, Q (.panic c) (a.put d v) w → Q (.panic c) a w := by intro _ _ d _ _ h; cases d <;> exact h) (h : (qdp P md ops n ex is listed σ).map (fun r => (r.1, thin r.2 σ new, new.map fun p => r.2.lookup p.1)) = some (listed', true, new.map fun p => some p.2) := by kernel_rfl) : qaz P md ops Q S ex (fuel + is.length) listed a w := by
 cases hs : qdp P md ops n ex is listed σ with
 | none => rw [hs] at h; cases h
 | some r =>
  obtain ⟨l2, s⟩ := r
  rw [hs] at h
  injection h with h
  injection h with h0 h1
  injection h1 with h1 h2
  simp only at h0
  subst h0
  obtain ⟨full, hf⟩ := qg2 is hs
  exact qi3 hQ is HF hS hs fun a' HF' => k a' (HF'.thin hf h1 h2)
theorem ay (HF : Fr a n D σ) (hS : S w) (i : Nat) (ho : ops[i]? = some o) (hw : wantB ops σ o = some true) (hd : o.dst = some d) (hy : Yl P S σ o v) (k : ∀ a', Fr a' n D ((d, v) :: σ) → qaz P md ops Q S ex fuel (listed.setIfInBounds i true) a' w)
  (hdn : d < n := by decide) (hok : qrn md ops ex listed i = true := by kernel_rfl) (hQ : ∀ c (a : Act) w, Q (.panic c) (a.put o.dst v) w → Q (.panic c) a w := by intro _ _ _ h; exact h) : qaz P md ops Q S ex (fuel + 1) listed a w := qx8 HF hS ho hw hd hdn hok hQ hy k
theorem qm (hr : Region.ready md ops listed = []) (h : Q .normal a w) : qaz P md ops Q S ex fuel listed a w := by
 cases fuel with
 | zero => exact ⟨hr, h⟩
 | succ f => exact ⟨fun _ => h, by rw [hr]; simp⟩
theorem all_nil {X : Nat → Prop} : ∀ i ∈ ([] : List Nat), X i := fun _ h => by cases h
theorem all_cons {X : Nat → Prop} {r : List Nat} (h : X i) (t : ∀ i ∈ r, X i) : ∀ j ∈ i :: r, X j := fun j hj => by
 rcases List.mem_cons.1 hj with rfl | hj
 ·exact h
 ·exact t j hj
theorem qi (rs : List Nat) (hr : Region.ready md ops listed = rs) (hne : rs.isEmpty = false) (h : ∀ i ∈ rs, wpOp P ops Q i (fun a' w' => (pastB ex (listed.setIfInBounds i true) = false → S w') ∧ qaz P md ops Q S ex fuel (listed.setIfInBounds i true) a' w') a w) : qaz P md ops Q S ex (fuel + 1) listed a w :=
 ⟨fun e => (by rw [hr] at e; subst e; cases hne), hr ▸ h⟩
theorem qat {f : Nat} {l : Array Bool} (J : Act → World → Prop) (h : ∀ a w, J a w → qaz P md ops Q S ex f l a w) (k : (∀ a w, J a w → qaz P md ops Q S ex f l a w) → qaz P md ops Q S ex fuel listed a w) : qaz P md ops Q S ex fuel listed a w := k h
theorem pastS {p : Prop} {l : Array Bool} (h : pastB ex l = true) : pastB ex l = false → p := fun e => by rw [h] at e; cases e
theorem keepS {c p X : Prop} (h : p) (k : p → X) : (c → p) ∧ X := ⟨fun _ => h, k h⟩
theorem noS {p X : Prop} {l : Array Bool} (h : pastB ex l = true) (k : X) : (pastB ex l = false → p) ∧ X := ⟨fun e => (by rw [h] at e; cases e), k⟩
theorem qj (HF : Fr a n D σ) (ho : ops[i]? = some o) (hw : wantB ops σ o = some true) (h : o.wp P a w K Q) : wpOp P ops Q i K a w := by
 unfold wpOp
 rw [ho]
 simp only [qda HF hw, if_true]
 exact .inl h
end
def isOne (P : Program) (t : TypeId) : Bool := match P.underlying t with
 | some (.struct _) => false
 | some (.array _ _) => false
 | some _ => true
 | none => false
def qn7 (P : Program) (t : TypeId) : Option Nat := match P.underlying t with
 | some (.slice e) => (P.info? e).map (·.size)
 | _ => none
theorem qhv {t : TypeId} (h : isOne P t = true) (w : World) : (isAgg t).run P w = .ok false w := by
 unfold isOne at h
 cases hu : P.underlying t with
 | none => rw [hu] at h; cases h
 | some d => rw [hu] at h; simp only [isAgg, Sem.run_bind, run_underlying hu, Result.andThen_ok]; cases d <;> first | rfl | cases h
theorem Yl.qh {t : TypeId} {x : Operand} {p : Addr} (hop : o.op = .load t x) (hx : look σ x = some (.pointer (some p))) (ht : isOne P t = true) (hc : ∀ w, S w → w.cell? p = some v) : Yl P S σ o v := fun a n D HF w hS => by
 unfold execOp
 simp [hop, HF.eval hx, Instr.loadAt, Instr.sureAddr, loadVar, qhv ht, load, Sem.run, hc w hS]
theorem Yl.qx {t : TypeId} {x : Operand} {b off m : Nat} {cs : Array Value} (hop : o.op = .load t x) (hx : look σ x = some (.pointer (some ⟨b, off, none⟩))) (si : SI P t m) (hm : cs.size = m) (hc : ∀ w, S w → w.rangeAt b off cs.toList) : Yl P S σ o (.agg cs) := fun a n D HF w hS => by
 obtain ⟨ds, hu, hd⟩ := si.desc
 have hl := run_loadVar_mid (P := P) w b off t cs.toList ds (hc w hS) hu hd (by rw [si.size, ← hm]; simp)
 unfold execOp
 simp [hop, HF.eval hx, Instr.loadAt, Instr.sureAddr, hl]
theorem Yl.indexAddr {t : TypeId} {x ix : Operand} {ad : Addr} {m c y sz : Nat} {k : IntKind} (hop : o.op = .indexAddr t x ix) (hx : look σ x = some (.slice (some ad) m c)) (hi : look σ ix = some (.int k (y : Int))) (hy : y < m) (he : qn7 P t = some sz) : Yl P S σ o (.pointer (some (ad.add (y * sz)))) := fun a n D HF w hS => by
 unfold qn7 at he
 split at he
 ·rename_i e hu
  obtain ⟨i, hi', rfl⟩ := Option.map_eq_some_iff.1 he
  unfold execOp
  have h1 : ¬ m ≤ y := by omega
  simp [hop, HF.eval hx, HF.eval hi, Instr.indexAt, asIntOf, run_underlying hu, hy, sizeOf, typeInfo, hi']
 ·cases he
def isSl (P : Program) (t : TypeId) : Bool := match P.underlying t with
 | some (.slice _) => true
 | _ => false
theorem Yl.len {x : Operand} {t : TypeId} {A : Option Addr} {m c : Nat} (hop : o.op = .call { callee := .builtin .len, args := #[x], argTypes := #[t] }) (hx : look σ x = some (.slice A m c)) (ht : isSl P t = true) : Yl P S σ o (.int .i64 (m : Int)) := fun a n D HF w hS => by
 unfold isSl at ht
 split at ht
 ·rename_i e hu
  unfold execOp
  simp [hop, resolve, invoke, builtin, HF.eval hx, Builtin.len_, run_underlying hu, goInt]
 ·cases ht
theorem Yl.min {x y : Operand} {ts : Array TypeId} {k : IntKind} {p q : Int} (hop : o.op = .call { callee := .builtin .min, args := #[x, y], argTypes := ts }) (hx : look σ x = some (.int k p)) (hy : look σ y = some (.int k q)) : Yl P S σ o (.int k (if q < p then q else p)) := fun a n D HF w hS => by
 unfold execOp
 simp [hop, resolve, invoke, builtin, HF.eval hx, HF.eval hy, Builtin.min_, Builtin.min2]
theorem Yl.max {x y : Operand} {ts : Array TypeId} {k : IntKind} {p q : Int} (hop : o.op = .call { callee := .builtin .max, args := #[x, y], argTypes := ts }) (hx : look σ x = some (.int k p)) (hy : look σ y = some (.int k q)) : Yl P S σ o (.int k (if q > p then q else p)) := fun a n D HF w hS => by
 unfold execOp
 simp [hop, resolve, invoke, builtin, HF.eval hx, HF.eval hy, Builtin.max_, Builtin.max2]
theorem Yl.as {u : Value} (h : Yl P S σ o v) (e : v = u) : Yl P S σ o u := e ▸ h
theorem Yl.ix {t : TypeId} {x ix : Operand} (g of y sz : Nat) {m c : Nat} {k : IntKind} (hop : o.op = .indexAddr t x ix) (hx : look σ x = some (.slice (some ⟨g, of, none⟩) m c)) (hi : look σ ix = some (.int k (y : Int))) (hy : y < m := by omega) (he : qn7 P t = some sz := by kernel_rfl) : Yl P S σ o (.pointer (some ⟨g, of + y * sz, none⟩)) :=
 (Yl.indexAddr (ad := ⟨g, of, none⟩) hop hx hi hy he).as (by rw [Addr.add_mid])
theorem Yl.ix0 {t : TypeId} {x ix : Operand} (g y sz : Nat) {m c : Nat} {k : IntKind} (hop : o.op = .indexAddr t x ix) (hx : look σ x = some (.slice (some ⟨g, 0, none⟩) m c)) (hi : look σ ix = some (.int k (y : Int))) (hy : y < m := by omega) (he : qn7 P t = some sz := by kernel_rfl) : Yl P S σ o (.pointer (some ⟨g, y * sz, none⟩)) :=
 (Yl.indexAddr (ad := ⟨g, 0, none⟩) hop hx hi hy he).as (by rw [Addr.add_mid, Nat.zero_add])
end
end Go.Proofs.YtnakabnmjnfpcaaGreatDoor
