/- Parts. -/
import Derived.Test.YtannicghedpdpaaGreatQsChv
import Derived.Test.YtannicghedpdpaaGreatQsZ4
set_option linter.all false
set_option maxRecDepth 100000
set_option maxHeartbeats 1000000
namespace Go.Proofs.YtannicghedpdpaaGreat
open Go.RowKit
theorem qtj {rs : List Rw} (h : rs.length = 2) (h0 : (rs.getD 0 Rw.zero).l.length = 2) (h1 : (rs.getD 1 Rw.zero).l.length = 2) : ∀ y ∈ rs, y.l.length ≤ 100 := fun y hy => by
 obtain ⟨i, hi, rfl⟩ := z4 Rw.zero hy
 rcases (by omega : i = 0 ∨ i = 1) with rfl | rfl <;> omega
theorem qxi {rs : List Rw} {A : Option Addr} {c k : Nat} {l : List Sp} (h : ∀ y ∈ rs, y.l.length ≤ 100) (hk : k < rs.length) (he : rs.getD k Rw.zero = ⟨A, c, l⟩) : ∀ y ∈ rs.set k ⟨A, c, l.take 1⟩, y.l.length ≤ 100 := fun y hy => by
 rcases List.mem_or_eq_of_mem_set hy with h1 | rfl
 ·exact h y h1
 ·have h2 := h _ (qf Rw.zero hk)
  rw [he] at h2
  show (l.take 1).length ≤ 100
  rw [List.length_take]
  have : l.length ≤ 100 := h2
  omega
theorem qvg {rs : List Rw} {A : Option Addr} {c k : Nat} {l : List Sp} (h : ∀ y ∈ rs, ∀ z ∈ y.l, z.Ok) (hk : k < rs.length) (he : rs.getD k Rw.zero = ⟨A, c, l⟩) : ∀ y ∈ rs.set k ⟨A, c, l.take 1⟩, ∀ z ∈ y.l, z.Ok := fun y hy => by
 rcases List.mem_or_eq_of_mem_set hy with h1 | rfl
 ·exact h y h1
 ·intro z hz
  have h2 := h _ (qf Rw.zero hk)
  rw [he] at h2
  exact h2 z (List.mem_of_mem_take hz)
theorem qjq (w : World) :
    Calls Tryz.prog 17 #[] w (Is w (.bool true)) := by
 refine (JN0 Tryz.func17 182) ?_
 refine (JP∘Jp 1∘Jr∘Jy (v := .agg #[vI 0, vI 1]) (h:=by exact Yl.build (vs := [(0, vI 0), (1, vI 1)]) rfl kr kr)∘Jy (v := .agg #[vI 0, vI 3]) (h:=by exact Yl.build (vs := [(0, vI 0), (1, vI 3)]) rfl kr kr)∘JU ei_gr #[vI 0, vI 1, vI 0, vI 3]) fun w9 g9 => (Jy (v := .agg #[vI 2, vQ 0, vS g9 2 2]) (h:=by exact Yl.build (vs := [(0, vI 2), (2, vS g9 2 2)]) rfl kr kr)∘JA #[vI 0, vQ 0, vN]) fun w1 g1 => (JV zq O0') fun w1_5 => (Jd4∘Jq) fun a I L => ?_
 replace L := L.blkRow (i := 1) (n := 2) (size := 2) rfl rfl de
 replace L : Mem w _ [.blk g1 #[vI 2, vQ 0, vS g9 2 2] 33, .row (vS g9 2 2) 2 (defG.flatMap grL) 50 2] := L
 refine Jb I L ((JG∘JP∘Jy (v := .agg #[vI 2, vQ 0, vS g9 2 2]) (h:=by exact Yl.loadS rfl rfl zq rfl (fun _ h => qa (h.blk (i := 0) rfl)))∘JL (h:=by exact fun L => qn0 2 0 _ _ defG _ de de (L.rd (i := 1) rfl))) ?_)
 rintro L _ w12 ⟨p, rfl, hp0, hm⟩
 refine ⟨_, rfl, _, (show Mem w w12 (.blk g1 #[vI 2, vQ 0, vS g9 2 2] 33 :: .row (vS g9 2 2) 2 (defG.flatMap grL) 50 2 :: (stF p ++ ([]))) from by have h := L.joinT hm; rw [← List.append_nil (stF p)] at h; exact h), ?_⟩
 refine (JA #[vI 0, vQ 0, vN, vN, vN, vN, vN]) fun w2 g2 => (JV si_st O0' (h1:=by exact q5 p)) fun w2_3 => (Jd2∘Jj∘JQ∘JP∘Jy (v := .agg #[vB 1, vI 0, vI 1, vI 1, vI 2, vI 0, vI 0, vQ 3]) (h:=by exact Yl.build (vs := [(0, vB 1), (2, vI 1), (3, vI 1), (4, vI 2), (7, vQ 3)]) rfl kr kr)∘Jy (v := .agg #[vB 1, vI 0, vI 9, vI 0, vI 1, vI 0, vI 0, vQ 1]) (h:=by exact Yl.build (vs := [(0, vB 1), (2, vI 9), (4, vI 1), (7, vQ 1)]) rfl kr kr)∘Jy (v := .agg #[vB 6, vI 0, vI 0, vI 0, vI 0, vI 0, vI 0, vQ 0]) (h:=by exact Yl.build (vs := [(0, vB 6)]) rfl kr kr)∘Jy (v := .agg #[vB 5, vI 0, vI 0, vI 0, vI 0, vI 0, vI 9, vQ 0]) (h:=by exact Yl.build (vs := [(0, vB 5), (6, vI 9)]) rfl kr kr)∘JU ei_op #[vB 1, vI 0, vI 1, vI 1, vI 2, vI 0, vI 0, vQ 3, vB 1, vI 0, vI 9, vI 0, vI 1, vI 0, vI 0, vQ 1, vB 6, vI 0, vI 0, vI 0, vI 0, vI 0, vI 0, vQ 0, vB 5, vI 0, vI 0, vI 0, vI 0, vI 0, vI 9, vQ 0]) fun w17 g17 => (Jl∘Jp 1∘Jq) fun a I L => ?_
 replace L := L.blkRow (i := 0) (n := 4) (size := 8) rfl rfl de
 replace L : Mem w _ (.row (vS g17 4 4) 4 (defO.flatMap opL) 52 8 :: .blk g2 p.cells 45 :: .blk g1 #[vI 2, vQ 0, vS g9 2 2] 33 :: .row (vS g9 2 2) 2 (defG.flatMap grL) 50 2 :: (stF p ++ ([]))) := L
 refine Jb I L ((JG∘JB) fun a I L => ?_)
 refine qg (fun mS aS wS => ∃ (k : Nat) (p : Stm), (k ≤ 4) ∧ (p.sta = defS k) ∧ mS = 4 - k ∧ Fr aS 182 [] [(19, vI k), (18, vI 4), (17, vS g17 4 4), (2, vP g2 0), (1, vP g1 0), (0, .bool false)] ∧ Mem w wS (.row (vS g17 4 4) 4 (defO.flatMap opL) 52 8 :: .blk g2 p.cells 45 :: (stF p ++ ([])))) (m := 4 - 0) ⟨0, p, Nat.zero_le _, hp0.trans rfl, rfl, I.sub kr, L.pt 4 [0, 1]⟩ ?_
 clear I L; rintro mS a w_ ⟨k, p, hk, hps, rfl, I, L⟩
 refine Jb I L ((JP∘Jp 1∘Jj∘JQ) (Ju (fun hb20 => ?_) fun hb20 => ?_))
 ·
  intro a I L
  have hd20 := of_decide_eq_true hb20
  obtain ⟨o, ho⟩ : ∃ z, defO.getD k Op30.zero = z := ⟨_, rfl⟩
  have hoo : o.Ok := by rw [← ho]; exact qmt qtf k
  refine Jb I L ((JT∘JS'∘JQ∘JB∘JP∘Jy (h:=by exact Yl.ix0 g17 k 8 rfl rfl rfl)∘Jy (v := .agg ((defO.getD k Op30.zero).cells)) (h:=by exact Yl.loadS rfl rfl si_op rfl (fun _ h => h.z5 qcv (i := 0) rfl ((getD_at Op30.zero (by show k < 4; omega)))))∘Jo (.agg o.cells) (by rw [ho])∘JA #[vB 0, vI 0, vI 0, vI 0, vI 0, vI 0, vI 0, vQ 0]) fun w4 g4 => (JV si_op O0' (h1:=by exact qq8 o)) fun w5_3 => (Jd2∘Jj∘JR∘Jy (v := .agg p.cells) (h:=by exact Yl.loadS rfl rfl si_st rfl (fun _ h => qa (h.blk (i := 2) rfl)))∘Jy (v := .agg o.cells) (h:=by exact Yl.loadS rfl rfl si_op rfl (fun _ h => qa (h.blk (i := 0) rfl)))∘JL (h:=by exact fun L => rdo_s (L.st1 3 rfl) hps (qet k) hoo)) ?_)
  rintro L _ w26 ⟨p2, rfl, hp2, hj⟩
  refine ⟨_, rfl, _, (show Mem w w26 (.blk g4 o.cells 52 :: .row (vS g17 4 4) 4 (defO.flatMap opL) 52 8 :: .blk g2 p.cells 45 :: (stF p2 ++ ([]))) from qif (A := []) (p := p) (T := []) 3 L rfl hj), ?_⟩
  refine (Jp 1∘Jx∘Jx∘Jx∘JV si_st O2' (h1:=by exact q5 p2)) fun w6_7 => (Jt6∘Jj∘JR∘JaK 1∘Jp 1∘Jd2∘Jq) fun a I L => ?_
  exact ⟨_, om, k + 1, p2, by omega, hp2.trans (by rw [← ho]; rfl), rfl, I.sub kr, L.pt 3 [1, 2]⟩
 intro a I L
 have hd20 := of_decide_eq_false hb20
 have hk4 : k = 4 := by omega
 rw [hk4] at hps
 have hfp := few_s hps (qet 4)
 refine Jb I L ((JF∘JX∘JG∘JQ∘JP∘Jp 1∘Jj∘JB) fun a I L => ?_)
 refine qg (fun mS aS wS => ∃ (i : Nat), (i ≤ 24) ∧ mS = 24 - i ∧ Fr aS 182 [] [(31, vI i), (2, vP g2 0), (0, .bool false)] ∧ Mem w wS (.blk g2 p.cells 45 :: (stF p ++ ([])))) (m := 24 - 0) ⟨0, Nat.zero_le _, rfl, I.sub kr, L.pt 2 [1]⟩ ?_
 clear I L; rintro mS a w_ ⟨i, hi, rfl, I, L⟩
 refine Jb I L ((JP∘Jp 1∘Jj∘JQ) (Ji (fun hd32 => ?_) fun hd32 => ?_))
 ·
  refine (JT∘JS'∘JQ∘JB∘JP∘Jp 2∘Jd1∘Jr∘Jy (v := .agg p.cells) (h:=by exact Yl.loadS rfl rfl si_st rfl (fun _ h => qa (h.blk (i := 0) rfl)))∘JL (h:=by exact fun L => qjp p _ (L.st1 1 rfl) hfp)) ?_
  rintro L _ w35 ⟨y, rfl, heq, hcap, hm⟩
  refine ⟨_, rfl, _, (show Mem w w35 (.blk g2 p.cells 45 :: (stF y ++ (stF p ++ ([])))) from L.joinF (T := (stF p ++ ([]))) 1 hm rfl), ?_⟩
  refine (JA #[vI 0, vQ 0, vN, vN, vN, vN, vN]) fun w6 g6 => (JV si_st O0' (h1:=by exact q5 y)) fun w11_3 => (Jd2∘Jq) fun a I L => ?_
  have hyS : y.sta = defS 4 := (qfk heq).trans hps
  have hok0 : y.sta.Ok := (qap (y := y) (by rw [hyS]; exact (qet 4).sh)).ok
  obtain ⟨hlg, hll, hlu, hlt, hls, hl0, hl1⟩ := qxh (show lens4 y.sta = true by rw [hyS]; exact qth)
  obtain ⟨hcg, hcl, hcu, hct, hcs, hcr⟩ := hcap
  obtain ⟨cp, cr, gA, gc, gs, lA, lc, cl, uA, uc, cu, tA, tc, ts, sA, sc, rs⟩ := y
  replace hlg : gs.length = 2 := hlg; replace hll : cl.length = 2 := hll; replace hlu : cu.length = 2 := hlu; replace hlt : ts.length = 2 := hlt
  replace hls : rs.length = 2 := by have h : (rs.map Rw.l).length = 2 := hls; rwa [List.length_map] at h
  replace hcs : rs.length ≤ sc := hcs
  replace hok0 : (⟨cp, cr, gA, gc, gs, lA, lc, cl, uA, uc, cu, tA, tc, ts, sA, sc, rs⟩ : Stm).sta.Ok := hok0
  replace hl0 : (rs.getD 0 Rw.zero).l.length = 2 := by rw [← rs_at (x := (⟨cp, cr, gA, gc, gs, lA, lc, cl, uA, uc, cu, tA, tc, ts, sA, sc, rs⟩ : Stm)) (by show 0 < rs.length; omega)]; exact hl0
  replace hl1 : (rs.getD 1 Rw.zero).l.length = 2 := by rw [← rs_at (x := (⟨cp, cr, gA, gc, gs, lA, lc, cl, uA, uc, cu, tA, tc, ts, sA, sc, rs⟩ : Stm)) (by show 1 < rs.length; omega)]; exact hl1
  have hrf := qtj hls hl0 hl1
  have hcr1 : (rs.getD 1 Rw.zero).l.length ≤ (rs.getD 1 Rw.zero).c := hcr _ (show rs.getD 1 Rw.zero ∈ rs from qf Rw.zero om)
  replace L : Mem w _ (.blk g6 #[vI cp, vQ cr, .slice gA gs.length gc, .slice lA cl.length lc, .slice uA cu.length uc, .slice tA ts.length tc, .slice sA rs.length sc] 45 :: .blk g2 p.cells 45 :: fG gA gs.length gc gs :: fI lA cl.length lc cl :: fI uA cu.length uc cu :: fT tA ts.length tc ts :: fS sA rs.length sc rs :: (fR rs ++ (stF p ++ ([])))) := L
  revert L; revert a; repeat (first | clear I | clear L)
  intro a I L
  obtain ⟨ggA, rfl⟩ := qi (L.own (i := 2) rfl) om
  revert L; revert a; repeat (first | clear I | clear L)
  intro a I L
  obtain ⟨glA, rfl⟩ := qi (L.own (i := 3) rfl) om
  revert L; revert a; repeat (first | clear I | clear L)
  intro a I L
  obtain ⟨guA, rfl⟩ := qi (L.own (i := 4) rfl) om
  revert L; revert a; repeat (first | clear I | clear L)
  intro a I L
  obtain ⟨gtA, rfl⟩ := qi (L.own (i := 5) rfl) om
  revert L; revert a; repeat (first | clear I | clear L)
  intro a I L
  obtain ⟨gsA, rfl⟩ := qi (L.own (i := 6) rfl) om
  obtain ⟨⟨y0A, y0c, y0l⟩, hy0⟩ : ∃ y, rs.getD 0 Rw.zero = y := ⟨_, rfl⟩
  rw [hy0] at hl0
  replace hl0 : y0l.length = 2 := hl0
  revert L; revert a; repeat (first | clear I | clear L)
  intro a I L
  obtain ⟨gy0, rfl⟩ := L.rwSome 7 rfl om hy0 om
  obtain ⟨z0, hz0⟩ : ∃ z, y0l[1]? = some z := ⟨_, List.getElem?_eq_getElem om⟩
  have hzo0 : z0.Ok := by refine rows_ok hok0 _ (qf Rw.zero (show 0 < rs.length by omega)) z0 ?_; rw [hy0]; exact List.mem_of_getElem? hz0
  obtain ⟨⟨y1A, y1c, y1l⟩, hy1⟩ : ∃ y, rs.getD 1 Rw.zero = y := ⟨_, rfl⟩
  rw [hy1] at hl1
  replace hl1 : y1l.length = 2 := hl1
  revert L; revert a; repeat (first | clear I | clear L)
  intro a I L
  obtain ⟨gy1, rfl⟩ := L.rwSome 7 rfl om hy1 om
  obtain ⟨z1, hz1⟩ : ∃ z, y1l[0]? = some z := ⟨_, List.getElem?_eq_getElem om⟩
  have hzo1 : z1.Ok := by refine rows_ok hok0 _ (qf Rw.zero (show 1 < rs.length by omega)) z1 ?_; rw [hy1]; exact List.mem_of_getElem? hz1
  rw [hy1] at hcr1
  replace hcr1 : y1l.length ≤ y1c := hcr1
  refine Jb I L ((JG∘JQ∘JP∘Jp 1∘Jj) fun a I L => ?_)
  refine qta (fun aS wS => ∃ (cp : Int) (cr : Nat) (gA : Option Addr) (gc : Nat) (gs : List Gr) (lA : Option Addr) (lc : Nat) (cl : List Int) (uA : Option Addr) (uc : Nat) (cu : List Int) (tA : Option Addr) (tc : Nat) (ts : List Tk) (sA : Option Addr) (sc : Nat) (rs : List Rw) (ng : Nat) (nl : Nat) (nu : Nat) (nt : Nat) (ns : Nat), (Lns (⟨cp, cr, gA, gc, gs, lA, lc, cl, uA, uc, cu, tA, tc, ts, sA, sc, rs⟩ : Stm) ng nl nu nt ns) ∧ ((⟨cp, cr, gA, gc, gs, lA, lc, cl, uA, uc, cu, tA, tc, ts, sA, sc, rs⟩ : Stm).sta.Ok) ∧ (StFew (⟨cp, cr, gA, gc, gs, lA, lc, cl, uA, uc, cu, tA, tc, ts, sA, sc, rs⟩ : Stm)) ∧ Fr aS 182 [] [(6, vP g6 0), (31, vI i), (2, vP g2 0), (0, .bool false)] ∧ Mem w wS (.blk g6 #[vI cp, vQ cr, .slice gA ng gc, .slice lA nl lc, .slice uA nu uc, .slice tA nt tc, .slice sA ns sc] 45 :: .blk g2 p.cells 45 :: fG gA ng gc gs :: fI lA nl lc cl :: fI uA nu uc cu :: fT tA nt tc ts :: fS sA ns sc rs :: (fR rs ++ (stF p ++ ([]))))) ?_ ?_
  ·
   refine Jb I L ((JB∘JP∘Jp 2∘Jd1∘Jj) (Je (fun hd37 => ?_) fun hd37 => ?_))
   ·
    refine (JT∘JR∘Jf 0∘Jf 0∘JW O0' O0') fun w14_2 => (Jt2∘Jq) fun a I L => ?_
    have hlnN : Lns (⟨3, cr, (some ⟨ggA, 0, none⟩), gc, gs, (some ⟨glA, 0, none⟩), lc, cl, (some ⟨guA, 0, none⟩), uc, cu, (some ⟨gtA, 0, none⟩), tc, ts, (some ⟨gsA, 0, none⟩), sc, rs⟩ : Stm) gs.length cl.length cu.length ts.length rs.length := ⟨rfl, rfl, rfl, rfl, rfl⟩
    have hfwN := q7 hlnN om (hrf)
    have hokN : (⟨3, cr, (some ⟨ggA, 0, none⟩), gc, gs, (some ⟨glA, 0, none⟩), lc, cl, (some ⟨guA, 0, none⟩), uc, cu, (some ⟨gtA, 0, none⟩), tc, ts, (some ⟨gsA, 0, none⟩), sc, rs⟩ : Stm).sta.Ok := ok_cp (x := (⟨cp, cr, some ⟨ggA, 0, none⟩, gc, gs, some ⟨glA, 0, none⟩, lc, cl, some ⟨guA, 0, none⟩, uc, cu, some ⟨gtA, 0, none⟩, tc, ts, some ⟨gsA, 0, none⟩, sc, rs⟩ : Stm)) hok0 (v := 3) (by unfold I64; decide)
    exact ⟨3, cr, (some ⟨ggA, 0, none⟩), gc, gs, (some ⟨glA, 0, none⟩), lc, cl, (some ⟨guA, 0, none⟩), uc, cu, (some ⟨gtA, 0, none⟩), tc, ts, (some ⟨gsA, 0, none⟩), sc, rs, gs.length, cl.length, cu.length, ts.length, rs.length, hlnN, hokN, hfwN, I.sub kr, L.pt 7 [0, 1, 2, 3, 4, 5, 6]⟩
   refine (JF∘JP∘Jp 2∘Jd1∘Jj) (Je (fun hd41 => ?_) fun hd41 => ?_)
   ·
    refine (JT∘JR∘Jf 0∘Jf 1∘JW O0' O1') fun w16_2 => (Jt2∘Jq) fun a I L => ?_
    have hlnN : Lns (⟨cp, 1099511627777, (some ⟨ggA, 0, none⟩), gc, gs, (some ⟨glA, 0, none⟩), lc, cl, (some ⟨guA, 0, none⟩), uc, cu, (some ⟨gtA, 0, none⟩), tc, ts, (some ⟨gsA, 0, none⟩), sc, rs⟩ : Stm) gs.length cl.length cu.length ts.length rs.length := ⟨rfl, rfl, rfl, rfl, rfl⟩
    have hfwN := q7 hlnN om (hrf)
    have hokN : (⟨cp, 1099511627777, (some ⟨ggA, 0, none⟩), gc, gs, (some ⟨glA, 0, none⟩), lc, cl, (some ⟨guA, 0, none⟩), uc, cu, (some ⟨gtA, 0, none⟩), tc, ts, (some ⟨gsA, 0, none⟩), sc, rs⟩ : Stm).sta.Ok := ok_cr (x := (⟨cp, cr, some ⟨ggA, 0, none⟩, gc, gs, some ⟨glA, 0, none⟩, lc, cl, some ⟨guA, 0, none⟩, uc, cu, some ⟨gtA, 0, none⟩, tc, ts, some ⟨gsA, 0, none⟩, sc, rs⟩ : Stm)) hok0 (v := 1099511627777) de
    exact ⟨cp, 1099511627777, (some ⟨ggA, 0, none⟩), gc, gs, (some ⟨glA, 0, none⟩), lc, cl, (some ⟨guA, 0, none⟩), uc, cu, (some ⟨gtA, 0, none⟩), tc, ts, (some ⟨gsA, 0, none⟩), sc, rs, gs.length, cl.length, cu.length, ts.length, rs.length, hlnN, hokN, hfwN, I.sub kr, L.pt 7 [0, 1, 2, 3, 4, 5, 6]⟩
   refine (JF∘JP∘Jp 2∘Jd1∘Jj) (Je (fun hd45 => ?_) fun hd45 => ?_)
   ·
    refine (JT∘JR∘Jf 0∘Jg 2 O0∘Jy (v := vP ggA 2) (h:=by exact Yl.indexAddr (ad := ⟨ggA, 0, none⟩) (y := 1) (sz := 2) rfl rfl rfl om kr)∘Jf 0) fun a I L => ?_
    refine fo I 5 rfl rfl ?_
    refine qk I L (i := 2) rfl rfl rfl rfl kr rfl rfl (by rw [qy grL 2 q0]; omega) ?_
    clear L; intro w18_5 L
    replace L := L.asRow (i := 2) (ys := (gs.set 1 ({ gs.getD 1 Gr.zero with parent := 1 } : Gr)).flatMap grL) rfl (qw grL 2 q0 gs 1 (gs.getD 1 Gr.zero) ({ gs.getD 1 Gr.zero with parent := 1 } : Gr) (getD_at Gr.zero om) 0 de _ rfl)
    refine Jb I L ((Jt4∘Jq) fun a I L => ?_)
    have hlnN : Lns (⟨cp, cr, (some ⟨ggA, 0, none⟩), gc, (gs.set 1 ({ gs.getD 1 Gr.zero with parent := 1 } : Gr)), (some ⟨glA, 0, none⟩), lc, cl, (some ⟨guA, 0, none⟩), uc, cu, (some ⟨gtA, 0, none⟩), tc, ts, (some ⟨gsA, 0, none⟩), sc, rs⟩ : Stm) gs.length cl.length cu.length ts.length rs.length := ⟨List.length_set .., rfl, rfl, rfl, rfl⟩
    have hfwN := q7 hlnN om (hrf)
    have hokN : (⟨cp, cr, (some ⟨ggA, 0, none⟩), gc, (gs.set 1 ({ gs.getD 1 Gr.zero with parent := 1 } : Gr)), (some ⟨glA, 0, none⟩), lc, cl, (some ⟨guA, 0, none⟩), uc, cu, (some ⟨gtA, 0, none⟩), tc, ts, (some ⟨gsA, 0, none⟩), sc, rs⟩ : Stm).sta.Ok := ok_gs (x := (⟨cp, cr, some ⟨ggA, 0, none⟩, gc, gs, some ⟨glA, 0, none⟩, lc, cl, some ⟨guA, 0, none⟩, uc, cu, some ⟨gtA, 0, none⟩, tc, ts, some ⟨gsA, 0, none⟩, sc, rs⟩ : Stm)) hok0 (by have h : (gs.getD 1 Gr.zero).Ok := hok0.gs _ (qf Gr.zero (show 1 < gs.length by omega)); exact ⟨show I64 (1 : Int) from by unfold I64; decide, h.weight⟩)
    exact ⟨cp, cr, (some ⟨ggA, 0, none⟩), gc, (gs.set 1 ({ gs.getD 1 Gr.zero with parent := 1 } : Gr)), (some ⟨glA, 0, none⟩), lc, cl, (some ⟨guA, 0, none⟩), uc, cu, (some ⟨gtA, 0, none⟩), tc, ts, (some ⟨gsA, 0, none⟩), sc, rs, gs.length, cl.length, cu.length, ts.length, rs.length, hlnN, hokN, hfwN, I.sub kr, L.pt 7 [0, 1, 2, 3, 4, 5, 6]⟩
   refine (JF∘JP∘Jp 2∘Jd1∘Jj) (Je (fun hd52 => ?_) fun hd52 => ?_)
   ·
    refine (JT∘JR∘Jg 3 O0∘Jy (v := vP glA 0) (h:=by exact Yl.indexAddr (ad := ⟨glA, 0, none⟩) (y := 0) (sz := 1) rfl rfl rfl om kr)) fun a I L => ?_
    refine fo I 3 rfl rfl ?_
    refine qk I L (i := 3) rfl rfl rfl rfl kr rfl rfl (by rw [List.length_map]; omega) ?_
    clear L; intro w20_3 L
    replace L := L.asRow (i := 3) (ys := (cl.set 0 (-1)).map I64i) rfl (zt I64i cl 0 (-1) om)
    refine Jb I L ((Jt2∘Jq) fun a I L => ?_)
    have hlnN : Lns (⟨cp, cr, (some ⟨ggA, 0, none⟩), gc, gs, (some ⟨glA, 0, none⟩), lc, (cl.set 0 (-1)), (some ⟨guA, 0, none⟩), uc, cu, (some ⟨gtA, 0, none⟩), tc, ts, (some ⟨gsA, 0, none⟩), sc, rs⟩ : Stm) gs.length cl.length cu.length ts.length rs.length := ⟨rfl, List.length_set .., rfl, rfl, rfl⟩
    have hfwN := q7 hlnN om (hrf)
    have hokN : (⟨cp, cr, (some ⟨ggA, 0, none⟩), gc, gs, (some ⟨glA, 0, none⟩), lc, (cl.set 0 (-1)), (some ⟨guA, 0, none⟩), uc, cu, (some ⟨gtA, 0, none⟩), tc, ts, (some ⟨gsA, 0, none⟩), sc, rs⟩ : Stm).sta.Ok := ok_cl (x := (⟨cp, cr, some ⟨ggA, 0, none⟩, gc, gs, some ⟨glA, 0, none⟩, lc, cl, some ⟨guA, 0, none⟩, uc, cu, some ⟨gtA, 0, none⟩, tc, ts, some ⟨gsA, 0, none⟩, sc, rs⟩ : Stm)) hok0 (by unfold I64; decide)
    exact ⟨cp, cr, (some ⟨ggA, 0, none⟩), gc, gs, (some ⟨glA, 0, none⟩), lc, (cl.set 0 (-1)), (some ⟨guA, 0, none⟩), uc, cu, (some ⟨gtA, 0, none⟩), tc, ts, (some ⟨gsA, 0, none⟩), sc, rs, gs.length, cl.length, cu.length, ts.length, rs.length, hlnN, hokN, hfwN, I.sub kr, L.pt 7 [0, 1, 2, 3, 4, 5, 6]⟩
   refine (JF∘JP∘Jp 2∘Jd1∘Jj) (Je (fun hd57 => ?_) fun hd57 => ?_)
   ·
    refine (JT∘JR∘Jg 3 O0∘Jy (v := vP glA 1) (h:=by exact Yl.indexAddr (ad := ⟨glA, 0, none⟩) (y := 1) (sz := 1) rfl rfl rfl om kr)) fun a I L => ?_
    refine fo I 3 rfl rfl ?_
    refine qk I L (i := 3) rfl rfl rfl rfl kr rfl rfl (by rw [List.length_map]; omega) ?_
    clear L; intro w22_3 L
    replace L := L.asRow (i := 3) (ys := (cl.set 1 281474976710657).map I64i) rfl (zt I64i cl 1 281474976710657 om)
    refine Jb I L ((Jt2∘Jq) fun a I L => ?_)
    have hlnN : Lns (⟨cp, cr, (some ⟨ggA, 0, none⟩), gc, gs, (some ⟨glA, 0, none⟩), lc, (cl.set 1 281474976710657), (some ⟨guA, 0, none⟩), uc, cu, (some ⟨gtA, 0, none⟩), tc, ts, (some ⟨gsA, 0, none⟩), sc, rs⟩ : Stm) gs.length cl.length cu.length ts.length rs.length := ⟨rfl, List.length_set .., rfl, rfl, rfl⟩
    have hfwN := q7 hlnN om (hrf)
    have hokN : (⟨cp, cr, (some ⟨ggA, 0, none⟩), gc, gs, (some ⟨glA, 0, none⟩), lc, (cl.set 1 281474976710657), (some ⟨guA, 0, none⟩), uc, cu, (some ⟨gtA, 0, none⟩), tc, ts, (some ⟨gsA, 0, none⟩), sc, rs⟩ : Stm).sta.Ok := ok_cl (x := (⟨cp, cr, some ⟨ggA, 0, none⟩, gc, gs, some ⟨glA, 0, none⟩, lc, cl, some ⟨guA, 0, none⟩, uc, cu, some ⟨gtA, 0, none⟩, tc, ts, some ⟨gsA, 0, none⟩, sc, rs⟩ : Stm)) hok0 (by unfold I64; decide)
    exact ⟨cp, cr, (some ⟨ggA, 0, none⟩), gc, gs, (some ⟨glA, 0, none⟩), lc, (cl.set 1 281474976710657), (some ⟨guA, 0, none⟩), uc, cu, (some ⟨gtA, 0, none⟩), tc, ts, (some ⟨gsA, 0, none⟩), sc, rs, gs.length, cl.length, cu.length, ts.length, rs.length, hlnN, hokN, hfwN, I.sub kr, L.pt 7 [0, 1, 2, 3, 4, 5, 6]⟩
   refine (JF∘JP∘Jp 2∘Jd1∘Jj) (Je (fun hd62 => ?_) fun hd62 => ?_)
   ·
    refine (JT∘JR∘Jg 4 O0∘Jy (v := vP guA 1) (h:=by exact Yl.indexAddr (ad := ⟨guA, 0, none⟩) (y := 1) (sz := 1) rfl rfl rfl om kr)) fun a I L => ?_
    refine fo I 3 rfl rfl ?_
    refine qk I L (i := 4) rfl rfl rfl rfl kr rfl rfl (by rw [List.length_map]; omega) ?_
    clear L; intro w24_3 L
    replace L := L.asRow (i := 4) (ys := (cu.set 1 1).map I64i) rfl (zt I64i cu 1 1 om)
    refine Jb I L ((Jt2∘Jq) fun a I L => ?_)
    have hlnN : Lns (⟨cp, cr, (some ⟨ggA, 0, none⟩), gc, gs, (some ⟨glA, 0, none⟩), lc, cl, (some ⟨guA, 0, none⟩), uc, (cu.set 1 1), (some ⟨gtA, 0, none⟩), tc, ts, (some ⟨gsA, 0, none⟩), sc, rs⟩ : Stm) gs.length cl.length cu.length ts.length rs.length := ⟨rfl, rfl, List.length_set .., rfl, rfl⟩
    have hfwN := q7 hlnN om (hrf)
    have hokN : (⟨cp, cr, (some ⟨ggA, 0, none⟩), gc, gs, (some ⟨glA, 0, none⟩), lc, cl, (some ⟨guA, 0, none⟩), uc, (cu.set 1 1), (some ⟨gtA, 0, none⟩), tc, ts, (some ⟨gsA, 0, none⟩), sc, rs⟩ : Stm).sta.Ok := ok_cu (x := (⟨cp, cr, some ⟨ggA, 0, none⟩, gc, gs, some ⟨glA, 0, none⟩, lc, cl, some ⟨guA, 0, none⟩, uc, cu, some ⟨gtA, 0, none⟩, tc, ts, some ⟨gsA, 0, none⟩, sc, rs⟩ : Stm)) hok0 (by unfold I64; decide)
    exact ⟨cp, cr, (some ⟨ggA, 0, none⟩), gc, gs, (some ⟨glA, 0, none⟩), lc, cl, (some ⟨guA, 0, none⟩), uc, (cu.set 1 1), (some ⟨gtA, 0, none⟩), tc, ts, (some ⟨gsA, 0, none⟩), sc, rs, gs.length, cl.length, cu.length, ts.length, rs.length, hlnN, hokN, hfwN, I.sub kr, L.pt 7 [0, 1, 2, 3, 4, 5, 6]⟩
   refine (JF∘JP∘Jp 2∘Jd1∘Jj) (Je (fun hd67 => ?_) fun hd67 => ?_)
   ·
    refine (JT∘JR∘Jg 4 O0∘Jy (v := vP guA 0) (h:=by exact Yl.indexAddr (ad := ⟨guA, 0, none⟩) (y := 0) (sz := 1) rfl rfl rfl om kr)) fun a I L => ?_
    refine fo I 3 rfl rfl ?_
    refine qk I L (i := 4) rfl rfl rfl rfl kr rfl rfl (by rw [List.length_map]; omega) ?_
    clear L; intro w26_3 L
    replace L := L.asRow (i := 4) (ys := (cu.set 0 7).map I64i) rfl (zt I64i cu 0 7 om)
    refine Jb I L ((Jt2∘Jq) fun a I L => ?_)
    have hlnN : Lns (⟨cp, cr, (some ⟨ggA, 0, none⟩), gc, gs, (some ⟨glA, 0, none⟩), lc, cl, (some ⟨guA, 0, none⟩), uc, (cu.set 0 7), (some ⟨gtA, 0, none⟩), tc, ts, (some ⟨gsA, 0, none⟩), sc, rs⟩ : Stm) gs.length cl.length cu.length ts.length rs.length := ⟨rfl, rfl, List.length_set .., rfl, rfl⟩
    have hfwN := q7 hlnN om (hrf)
    have hokN : (⟨cp, cr, (some ⟨ggA, 0, none⟩), gc, gs, (some ⟨glA, 0, none⟩), lc, cl, (some ⟨guA, 0, none⟩), uc, (cu.set 0 7), (some ⟨gtA, 0, none⟩), tc, ts, (some ⟨gsA, 0, none⟩), sc, rs⟩ : Stm).sta.Ok := ok_cu (x := (⟨cp, cr, some ⟨ggA, 0, none⟩, gc, gs, some ⟨glA, 0, none⟩, lc, cl, some ⟨guA, 0, none⟩, uc, cu, some ⟨gtA, 0, none⟩, tc, ts, some ⟨gsA, 0, none⟩, sc, rs⟩ : Stm)) hok0 (by unfold I64; decide)
    exact ⟨cp, cr, (some ⟨ggA, 0, none⟩), gc, gs, (some ⟨glA, 0, none⟩), lc, cl, (some ⟨guA, 0, none⟩), uc, (cu.set 0 7), (some ⟨gtA, 0, none⟩), tc, ts, (some ⟨gsA, 0, none⟩), sc, rs, gs.length, cl.length, cu.length, ts.length, rs.length, hlnN, hokN, hfwN, I.sub kr, L.pt 7 [0, 1, 2, 3, 4, 5, 6]⟩
   refine (JF∘JP∘Jp 2∘Jd1∘Jj) (Je (fun hd72 => ?_) fun hd72 => ?_)
   ·
    refine (JT∘JR∘Jg 5 O0∘Jy (v := vP gtA 0) (h:=by exact Yl.indexAddr (ad := ⟨gtA, 0, none⟩) (y := 0) (sz := 8) rfl rfl rfl om kr)∘Jf 0) fun a I L => ?_
    refine fo I 4 rfl rfl ?_
    refine qk I L (i := 5) rfl rfl rfl rfl kr rfl rfl (by rw [qy tkL 8 qd]; omega) ?_
    clear L; intro w28_4 L
    replace L := L.asRow (i := 5) (ys := (ts.set 0 ({ ts.getD 0 Tk.zero with id := 9 } : Tk)).flatMap tkL) rfl (qw tkL 8 qd ts 0 (ts.getD 0 Tk.zero) ({ ts.getD 0 Tk.zero with id := 9 } : Tk) (getD_at Tk.zero om) 0 de _ rfl)
    refine Jb I L ((Jt3∘Jq) fun a I L => ?_)
    have hlnN : Lns (⟨cp, cr, (some ⟨ggA, 0, none⟩), gc, gs, (some ⟨glA, 0, none⟩), lc, cl, (some ⟨guA, 0, none⟩), uc, cu, (some ⟨gtA, 0, none⟩), tc, (ts.set 0 ({ ts.getD 0 Tk.zero with id := 9 } : Tk)), (some ⟨gsA, 0, none⟩), sc, rs⟩ : Stm) gs.length cl.length cu.length ts.length rs.length := ⟨rfl, rfl, rfl, List.length_set .., rfl⟩
    have hfwN := q7 hlnN om (hrf)
    have hokN : (⟨cp, cr, (some ⟨ggA, 0, none⟩), gc, gs, (some ⟨glA, 0, none⟩), lc, cl, (some ⟨guA, 0, none⟩), uc, cu, (some ⟨gtA, 0, none⟩), tc, (ts.set 0 ({ ts.getD 0 Tk.zero with id := 9 } : Tk)), (some ⟨gsA, 0, none⟩), sc, rs⟩ : Stm).sta.Ok := ok_ts (x := (⟨cp, cr, some ⟨ggA, 0, none⟩, gc, gs, some ⟨glA, 0, none⟩, lc, cl, some ⟨guA, 0, none⟩, uc, cu, some ⟨gtA, 0, none⟩, tc, ts, some ⟨gsA, 0, none⟩, sc, rs⟩ : Stm)) hok0 (by have h : (ts.getD 0 Tk.zero).Ok := hok0.ts _ (qf Tk.zero (show 0 < ts.length by omega)); exact ⟨show I64 (9 : Int) from by unfold I64; decide, h.group, h.weight, h.cpu, h.mask, h.v, h.r⟩)
    exact ⟨cp, cr, (some ⟨ggA, 0, none⟩), gc, gs, (some ⟨glA, 0, none⟩), lc, cl, (some ⟨guA, 0, none⟩), uc, cu, (some ⟨gtA, 0, none⟩), tc, (ts.set 0 ({ ts.getD 0 Tk.zero with id := 9 } : Tk)), (some ⟨gsA, 0, none⟩), sc, rs, gs.length, cl.length, cu.length, ts.length, rs.length, hlnN, hokN, hfwN, I.sub kr, L.pt 7 [0, 1, 2, 3, 4, 5, 6]⟩
   refine (JF∘JP∘Jp 2∘Jd1∘Jj) (Ju (fun hb78 => ?_) fun hb78 => ?_)
   ·
    intro a I L
    have hd78 := eq_of_beq hb78
    refine Jb I L ((JT∘JR∘Jg 5 O0∘Jy (v := vP gtA 8) (h:=by exact Yl.indexAddr (ad := ⟨gtA, 0, none⟩) (y := 1) (sz := 8) rfl rfl rfl om kr)∘Jf 0) fun a I L => ?_)
    refine fo I 4 rfl rfl ?_
    refine qk I L (i := 5) rfl rfl rfl rfl kr rfl rfl (by rw [qy tkL 8 qd]; omega) ?_
    clear L; intro w30_4 L
    replace L := L.asRow (i := 5) (ys := (ts.set 1 ({ ts.getD 1 Tk.zero with id := 65536 } : Tk)).flatMap tkL) rfl (qw tkL 8 qd ts 1 (ts.getD 1 Tk.zero) ({ ts.getD 1 Tk.zero with id := 65536 } : Tk) (getD_at Tk.zero om) 0 de _ rfl)
    refine Jb I L ((Jt3∘Jq) fun a I L => ?_)
    have hlnN : Lns (⟨cp, cr, (some ⟨ggA, 0, none⟩), gc, gs, (some ⟨glA, 0, none⟩), lc, cl, (some ⟨guA, 0, none⟩), uc, cu, (some ⟨gtA, 0, none⟩), tc, (ts.set 1 ({ ts.getD 1 Tk.zero with id := 65536 } : Tk)), (some ⟨gsA, 0, none⟩), sc, rs⟩ : Stm) gs.length cl.length cu.length ts.length rs.length := ⟨rfl, rfl, rfl, List.length_set .., rfl⟩
    have hfwN := q7 hlnN om (hrf)
    have hokN : (⟨cp, cr, (some ⟨ggA, 0, none⟩), gc, gs, (some ⟨glA, 0, none⟩), lc, cl, (some ⟨guA, 0, none⟩), uc, cu, (some ⟨gtA, 0, none⟩), tc, (ts.set 1 ({ ts.getD 1 Tk.zero with id := 65536 } : Tk)), (some ⟨gsA, 0, none⟩), sc, rs⟩ : Stm).sta.Ok := ok_ts (x := (⟨cp, cr, some ⟨ggA, 0, none⟩, gc, gs, some ⟨glA, 0, none⟩, lc, cl, some ⟨guA, 0, none⟩, uc, cu, some ⟨gtA, 0, none⟩, tc, ts, some ⟨gsA, 0, none⟩, sc, rs⟩ : Stm)) hok0 (by have h : (ts.getD 1 Tk.zero).Ok := hok0.ts _ (qf Tk.zero (show 1 < ts.length by omega)); exact ⟨show I64 (65536 : Int) from by unfold I64; decide, h.group, h.weight, h.cpu, h.mask, h.v, h.r⟩)
    exact ⟨cp, cr, (some ⟨ggA, 0, none⟩), gc, gs, (some ⟨glA, 0, none⟩), lc, cl, (some ⟨guA, 0, none⟩), uc, cu, (some ⟨gtA, 0, none⟩), tc, (ts.set 1 ({ ts.getD 1 Tk.zero with id := 65536 } : Tk)), (some ⟨gsA, 0, none⟩), sc, rs, gs.length, cl.length, cu.length, ts.length, rs.length, hlnN, hokN, hfwN, I.sub kr, L.pt 7 [0, 1, 2, 3, 4, 5, 6]⟩
   intro a I L
   have hd78 := ne_of_beq_false hb78
   refine Jb I L ((JF∘JP∘Jp 2∘Jd1∘Jj) (Je (fun hd84 => ?_) fun hd84 => ?_))
   ·
    refine (JT∘JR∘Jg 5 O0∘Jy (v := vP gtA 0) (h:=by exact Yl.indexAddr (ad := ⟨gtA, 0, none⟩) (y := 0) (sz := 8) rfl rfl rfl om kr)∘Jf 4) fun a I L => ?_
    refine fo I 4 rfl rfl ?_
    refine qk I L (i := 5) rfl rfl rfl rfl kr rfl rfl (by rw [qy tkL 8 qd]; omega) ?_
    clear L; intro w32_4 L
    replace L := L.asRow (i := 5) (ys := (ts.set 0 ({ ts.getD 0 Tk.zero with mask := 2 } : Tk)).flatMap tkL) rfl (qw tkL 8 qd ts 0 (ts.getD 0 Tk.zero) ({ ts.getD 0 Tk.zero with mask := 2 } : Tk) (getD_at Tk.zero om) 4 de _ rfl)
    refine Jb I L ((Jt3∘Jq) fun a I L => ?_)
    have hlnN : Lns (⟨cp, cr, (some ⟨ggA, 0, none⟩), gc, gs, (some ⟨glA, 0, none⟩), lc, cl, (some ⟨guA, 0, none⟩), uc, cu, (some ⟨gtA, 0, none⟩), tc, (ts.set 0 ({ ts.getD 0 Tk.zero with mask := 2 } : Tk)), (some ⟨gsA, 0, none⟩), sc, rs⟩ : Stm) gs.length cl.length cu.length ts.length rs.length := ⟨rfl, rfl, rfl, List.length_set .., rfl⟩
    have hfwN := q7 hlnN om (hrf)
    have hokN : (⟨cp, cr, (some ⟨ggA, 0, none⟩), gc, gs, (some ⟨glA, 0, none⟩), lc, cl, (some ⟨guA, 0, none⟩), uc, cu, (some ⟨gtA, 0, none⟩), tc, (ts.set 0 ({ ts.getD 0 Tk.zero with mask := 2 } : Tk)), (some ⟨gsA, 0, none⟩), sc, rs⟩ : Stm).sta.Ok := ok_ts (x := (⟨cp, cr, some ⟨ggA, 0, none⟩, gc, gs, some ⟨glA, 0, none⟩, lc, cl, some ⟨guA, 0, none⟩, uc, cu, some ⟨gtA, 0, none⟩, tc, ts, some ⟨gsA, 0, none⟩, sc, rs⟩ : Stm)) hok0 (by have h : (ts.getD 0 Tk.zero).Ok := hok0.ts _ (qf Tk.zero (show 0 < ts.length by omega)); exact ⟨h.id, h.group, h.weight, h.cpu, show (2 : Nat) < 18446744073709551616 from by decide, h.v, h.r⟩)
    exact ⟨cp, cr, (some ⟨ggA, 0, none⟩), gc, gs, (some ⟨glA, 0, none⟩), lc, cl, (some ⟨guA, 0, none⟩), uc, cu, (some ⟨gtA, 0, none⟩), tc, (ts.set 0 ({ ts.getD 0 Tk.zero with mask := 2 } : Tk)), (some ⟨gsA, 0, none⟩), sc, rs, gs.length, cl.length, cu.length, ts.length, rs.length, hlnN, hokN, hfwN, I.sub kr, L.pt 7 [0, 1, 2, 3, 4, 5, 6]⟩
   refine (JF∘JP∘Jp 2∘Jd1∘Jj) (Je (fun hd90 => ?_) fun hd90 => ?_)
   ·
    refine (JT∘JR∘Jg 5 O0∘Jy (v := vP gtA 0) (h:=by exact Yl.indexAddr (ad := ⟨gtA, 0, none⟩) (y := 0) (sz := 8) rfl rfl rfl om kr)∘Jf 4) fun a I L => ?_
    refine fo I 4 rfl rfl ?_
    refine qk I L (i := 5) rfl rfl rfl rfl kr rfl rfl (by rw [qy tkL 8 qd]; omega) ?_
    clear L; intro w34_4 L
    replace L := L.asRow (i := 5) (ys := (ts.set 0 ({ ts.getD 0 Tk.zero with mask := 5 } : Tk)).flatMap tkL) rfl (qw tkL 8 qd ts 0 (ts.getD 0 Tk.zero) ({ ts.getD 0 Tk.zero with mask := 5 } : Tk) (getD_at Tk.zero om) 4 de _ rfl)
    refine Jb I L ((Jt3∘Jq) fun a I L => ?_)
    have hlnN : Lns (⟨cp, cr, (some ⟨ggA, 0, none⟩), gc, gs, (some ⟨glA, 0, none⟩), lc, cl, (some ⟨guA, 0, none⟩), uc, cu, (some ⟨gtA, 0, none⟩), tc, (ts.set 0 ({ ts.getD 0 Tk.zero with mask := 5 } : Tk)), (some ⟨gsA, 0, none⟩), sc, rs⟩ : Stm) gs.length cl.length cu.length ts.length rs.length := ⟨rfl, rfl, rfl, List.length_set .., rfl⟩
    have hfwN := q7 hlnN om (hrf)
    have hokN : (⟨cp, cr, (some ⟨ggA, 0, none⟩), gc, gs, (some ⟨glA, 0, none⟩), lc, cl, (some ⟨guA, 0, none⟩), uc, cu, (some ⟨gtA, 0, none⟩), tc, (ts.set 0 ({ ts.getD 0 Tk.zero with mask := 5 } : Tk)), (some ⟨gsA, 0, none⟩), sc, rs⟩ : Stm).sta.Ok := ok_ts (x := (⟨cp, cr, some ⟨ggA, 0, none⟩, gc, gs, some ⟨glA, 0, none⟩, lc, cl, some ⟨guA, 0, none⟩, uc, cu, some ⟨gtA, 0, none⟩, tc, ts, some ⟨gsA, 0, none⟩, sc, rs⟩ : Stm)) hok0 (by have h : (ts.getD 0 Tk.zero).Ok := hok0.ts _ (qf Tk.zero (show 0 < ts.length by omega)); exact ⟨h.id, h.group, h.weight, h.cpu, show (5 : Nat) < 18446744073709551616 from by decide, h.v, h.r⟩)
    exact ⟨cp, cr, (some ⟨ggA, 0, none⟩), gc, gs, (some ⟨glA, 0, none⟩), lc, cl, (some ⟨guA, 0, none⟩), uc, cu, (some ⟨gtA, 0, none⟩), tc, (ts.set 0 ({ ts.getD 0 Tk.zero with mask := 5 } : Tk)), (some ⟨gsA, 0, none⟩), sc, rs, gs.length, cl.length, cu.length, ts.length, rs.length, hlnN, hokN, hfwN, I.sub kr, L.pt 7 [0, 1, 2, 3, 4, 5, 6]⟩
   refine (JF∘JP∘Jp 2∘Jd1∘Jj) (Je (fun hd96 => ?_) fun hd96 => ?_)
   ·
    refine (JT∘JR∘Jg 5 O0∘Jy (v := vP gtA 0) (h:=by exact Yl.indexAddr (ad := ⟨gtA, 0, none⟩) (y := 0) (sz := 8) rfl rfl rfl om kr)∘Jf 2) fun a I L => ?_
    refine fo I 4 rfl rfl ?_
    refine qk I L (i := 5) rfl rfl rfl rfl kr rfl rfl (by rw [qy tkL 8 qd]; omega) ?_
    clear L; intro w36_4 L
    replace L := L.asRow (i := 5) (ys := (ts.set 0 ({ ts.getD 0 Tk.zero with weight := 0 } : Tk)).flatMap tkL) rfl (qw tkL 8 qd ts 0 (ts.getD 0 Tk.zero) ({ ts.getD 0 Tk.zero with weight := 0 } : Tk) (getD_at Tk.zero om) 2 de _ rfl)
    refine Jb I L ((Jt3∘Jq) fun a I L => ?_)
    have hlnN : Lns (⟨cp, cr, (some ⟨ggA, 0, none⟩), gc, gs, (some ⟨glA, 0, none⟩), lc, cl, (some ⟨guA, 0, none⟩), uc, cu, (some ⟨gtA, 0, none⟩), tc, (ts.set 0 ({ ts.getD 0 Tk.zero with weight := 0 } : Tk)), (some ⟨gsA, 0, none⟩), sc, rs⟩ : Stm) gs.length cl.length cu.length ts.length rs.length := ⟨rfl, rfl, rfl, List.length_set .., rfl⟩
    have hfwN := q7 hlnN om (hrf)
    have hokN : (⟨cp, cr, (some ⟨ggA, 0, none⟩), gc, gs, (some ⟨glA, 0, none⟩), lc, cl, (some ⟨guA, 0, none⟩), uc, cu, (some ⟨gtA, 0, none⟩), tc, (ts.set 0 ({ ts.getD 0 Tk.zero with weight := 0 } : Tk)), (some ⟨gsA, 0, none⟩), sc, rs⟩ : Stm).sta.Ok := ok_ts (x := (⟨cp, cr, some ⟨ggA, 0, none⟩, gc, gs, some ⟨glA, 0, none⟩, lc, cl, some ⟨guA, 0, none⟩, uc, cu, some ⟨gtA, 0, none⟩, tc, ts, some ⟨gsA, 0, none⟩, sc, rs⟩ : Stm)) hok0 (by have h : (ts.getD 0 Tk.zero).Ok := hok0.ts _ (qf Tk.zero (show 0 < ts.length by omega)); exact ⟨h.id, h.group, show I64 (0 : Int) from by unfold I64; decide, h.cpu, h.mask, h.v, h.r⟩)
    exact ⟨cp, cr, (some ⟨ggA, 0, none⟩), gc, gs, (some ⟨glA, 0, none⟩), lc, cl, (some ⟨guA, 0, none⟩), uc, cu, (some ⟨gtA, 0, none⟩), tc, (ts.set 0 ({ ts.getD 0 Tk.zero with weight := 0 } : Tk)), (some ⟨gsA, 0, none⟩), sc, rs, gs.length, cl.length, cu.length, ts.length, rs.length, hlnN, hokN, hfwN, I.sub kr, L.pt 7 [0, 1, 2, 3, 4, 5, 6]⟩
   refine (JF∘JP∘Jp 2∘Jd1∘Jj) (Je (fun hd102 => ?_) fun hd102 => ?_)
   ·
    refine (JT∘JR∘Jg 5 O0∘Jy (v := vP gtA 0) (h:=by exact Yl.indexAddr (ad := ⟨gtA, 0, none⟩) (y := 0) (sz := 8) rfl rfl rfl om kr)∘Jf 7) fun a I L => ?_
    refine fo I 4 rfl rfl ?_
    refine qk I L (i := 5) rfl rfl rfl rfl kr rfl rfl (by rw [qy tkL 8 qd]; omega) ?_
    clear L; intro w38_4 L
    replace L := L.asRow (i := 5) (ys := (ts.set 0 ({ ts.getD 0 Tk.zero with r := 2 } : Tk)).flatMap tkL) rfl (qw tkL 8 qd ts 0 (ts.getD 0 Tk.zero) ({ ts.getD 0 Tk.zero with r := 2 } : Tk) (getD_at Tk.zero om) 7 de _ rfl)
    refine Jb I L ((Jt3∘Jq) fun a I L => ?_)
    have hlnN : Lns (⟨cp, cr, (some ⟨ggA, 0, none⟩), gc, gs, (some ⟨glA, 0, none⟩), lc, cl, (some ⟨guA, 0, none⟩), uc, cu, (some ⟨gtA, 0, none⟩), tc, (ts.set 0 ({ ts.getD 0 Tk.zero with r := 2 } : Tk)), (some ⟨gsA, 0, none⟩), sc, rs⟩ : Stm) gs.length cl.length cu.length ts.length rs.length := ⟨rfl, rfl, rfl, List.length_set .., rfl⟩
    have hfwN := q7 hlnN om (hrf)
    have hokN : (⟨cp, cr, (some ⟨ggA, 0, none⟩), gc, gs, (some ⟨glA, 0, none⟩), lc, cl, (some ⟨guA, 0, none⟩), uc, cu, (some ⟨gtA, 0, none⟩), tc, (ts.set 0 ({ ts.getD 0 Tk.zero with r := 2 } : Tk)), (some ⟨gsA, 0, none⟩), sc, rs⟩ : Stm).sta.Ok := ok_ts (x := (⟨cp, cr, some ⟨ggA, 0, none⟩, gc, gs, some ⟨glA, 0, none⟩, lc, cl, some ⟨guA, 0, none⟩, uc, cu, some ⟨gtA, 0, none⟩, tc, ts, some ⟨gsA, 0, none⟩, sc, rs⟩ : Stm)) hok0 (by have h : (ts.getD 0 Tk.zero).Ok := hok0.ts _ (qf Tk.zero (show 0 < ts.length by omega)); exact ⟨h.id, h.group, h.weight, h.cpu, h.mask, h.v, show (2 : Nat) < 4294967296 from by decide⟩)
    exact ⟨cp, cr, (some ⟨ggA, 0, none⟩), gc, gs, (some ⟨glA, 0, none⟩), lc, cl, (some ⟨guA, 0, none⟩), uc, cu, (some ⟨gtA, 0, none⟩), tc, (ts.set 0 ({ ts.getD 0 Tk.zero with r := 2 } : Tk)), (some ⟨gsA, 0, none⟩), sc, rs, gs.length, cl.length, cu.length, ts.length, rs.length, hlnN, hokN, hfwN, I.sub kr, L.pt 7 [0, 1, 2, 3, 4, 5, 6]⟩
   refine (JF∘JP∘Jp 2∘Jd1∘Jj) (Je (fun hd108 => ?_) fun hd108 => ?_)
   ·
    refine (JT∘JR∘Jg 6 O0∘Jy (v := vP gsA 0) (h:=by exact Yl.indexAddr (ad := ⟨gsA, 0, none⟩) (y := 0) (sz := 1) rfl rfl rfl om kr)∘Jy (v := .slice ((rs.getD 0 Rw.zero).A) ((rs.getD 0 Rw.zero).l.length) ((rs.getD 0 Rw.zero).c)) (h:=by exact Yl.r1 6 0 Rw.zero om rfl rfl rfl)∘Jo (vS gy0 y0l.length y0c) (by rw [hy0])∘Jy (v := vP gy0 3) (h:=by exact Yl.indexAddr (ad := ⟨gy0, 0, none⟩) (y := 1) (sz := 3) rfl rfl rfl om kr)∘Jf 0) fun a I L => ?_
    refine fo I 6 rfl rfl ?_
    refine zb I L 6 (c := 1) 0 ({ z0 with v := 1 } : Sp) rfl rfl rfl rfl kr rfl rfl om (hy0) (hz0) rfl de rfl ?_
    clear L; intro w40_6 L
    replace L : Mem w w40_6 (.blk g6 #[vI cp, vQ cr, vS ggA gs.length gc, vS glA cl.length lc, vS guA cu.length uc, vS gtA ts.length tc, vS gsA rs.length sc] 45 :: .blk g2 p.cells 45 :: fG (some ⟨ggA, 0, none⟩) gs.length gc gs :: fI (some ⟨glA, 0, none⟩) cl.length lc cl :: fI (some ⟨guA, 0, none⟩) cu.length uc cu :: fT (some ⟨gtA, 0, none⟩) ts.length tc ts :: fS (some ⟨gsA, 0, none⟩) rs.length sc (rsPut rs 0 1 ({ z0 with v := 1 } : Sp)) :: (fR (rsPut rs 0 1 ({ z0 with v := 1 } : Sp)) ++ (stF p ++ ([])))) := L
    refine Jb I L ((Jt5∘Jq) fun a I L => ?_)
    have hlnN : Lns (⟨cp, cr, (some ⟨ggA, 0, none⟩), gc, gs, (some ⟨glA, 0, none⟩), lc, cl, (some ⟨guA, 0, none⟩), uc, cu, (some ⟨gtA, 0, none⟩), tc, ts, (some ⟨gsA, 0, none⟩), sc, (rsPut rs 0 1 ({ z0 with v := 1 } : Sp))⟩ : Stm) gs.length cl.length cu.length ts.length rs.length := ⟨rfl, rfl, rfl, rfl, qt ..⟩
    have hfwN := q7 hlnN om (qn3 hrf)
    have hokN : (⟨cp, cr, (some ⟨ggA, 0, none⟩), gc, gs, (some ⟨glA, 0, none⟩), lc, cl, (some ⟨guA, 0, none⟩), uc, cu, (some ⟨gtA, 0, none⟩), tc, ts, (some ⟨gsA, 0, none⟩), sc, (rsPut rs 0 1 ({ z0 with v := 1 } : Sp))⟩ : Stm).sta.Ok := ok_rs (x := (⟨cp, cr, some ⟨ggA, 0, none⟩, gc, gs, some ⟨glA, 0, none⟩, lc, cl, some ⟨guA, 0, none⟩, uc, cu, some ⟨gtA, 0, none⟩, tc, ts, some ⟨gsA, 0, none⟩, sc, rs⟩ : Stm)) hok0 (qn2 (x := (⟨cp, cr, some ⟨ggA, 0, none⟩, gc, gs, some ⟨glA, 0, none⟩, lc, cl, some ⟨guA, 0, none⟩, uc, cu, some ⟨gtA, 0, none⟩, tc, ts, some ⟨gsA, 0, none⟩, sc, rs⟩ : Stm)) (rows_ok hok0) ⟨show (1 : Nat) < 18446744073709551616 from by decide, hzo0.r, hzo0.floor⟩)
    exact ⟨cp, cr, (some ⟨ggA, 0, none⟩), gc, gs, (some ⟨glA, 0, none⟩), lc, cl, (some ⟨guA, 0, none⟩), uc, cu, (some ⟨gtA, 0, none⟩), tc, ts, (some ⟨gsA, 0, none⟩), sc, (rsPut rs 0 1 ({ z0 with v := 1 } : Sp)), gs.length, cl.length, cu.length, ts.length, rs.length, hlnN, hokN, hfwN, I.sub kr, L.pt 7 [0, 1, 2, 3, 4, 5, 6]⟩
   refine (JF∘JP∘Jp 2∘Jd1∘Jj) (Je (fun hd116 => ?_) fun hd116 => ?_)
   ·
    refine (JT∘JR∘Jg 6 O0∘Jy (v := vP gsA 1) (h:=by exact Yl.indexAddr (ad := ⟨gsA, 0, none⟩) (y := 1) (sz := 1) rfl rfl rfl om kr)∘Jy (v := .slice ((rs.getD 1 Rw.zero).A) ((rs.getD 1 Rw.zero).l.length) ((rs.getD 1 Rw.zero).c)) (h:=by exact Yl.r1 6 1 Rw.zero om rfl rfl rfl)∘Jo (vS gy1 y1l.length y1c) (by rw [hy1])∘Jy (v := vP gy1 0) (h:=by exact Yl.indexAddr (ad := ⟨gy1, 0, none⟩) (y := 0) (sz := 3) rfl rfl rfl om kr)∘Jf 1) fun a I L => ?_
    refine fo I 6 rfl rfl ?_
    refine zb I L 6 (c := 0) 1 ({ z1 with r := 3 } : Sp) rfl rfl rfl rfl kr rfl rfl om (hy1) (hz1) rfl de rfl ?_
    clear L; intro w42_6 L
    replace L : Mem w w42_6 (.blk g6 #[vI cp, vQ cr, vS ggA gs.length gc, vS glA cl.length lc, vS guA cu.length uc, vS gtA ts.length tc, vS gsA rs.length sc] 45 :: .blk g2 p.cells 45 :: fG (some ⟨ggA, 0, none⟩) gs.length gc gs :: fI (some ⟨glA, 0, none⟩) cl.length lc cl :: fI (some ⟨guA, 0, none⟩) cu.length uc cu :: fT (some ⟨gtA, 0, none⟩) ts.length tc ts :: fS (some ⟨gsA, 0, none⟩) rs.length sc (rsPut rs 1 0 ({ z1 with r := 3 } : Sp)) :: (fR (rsPut rs 1 0 ({ z1 with r := 3 } : Sp)) ++ (stF p ++ ([])))) := L
    refine Jb I L ((Jt5∘Jq) fun a I L => ?_)
    have hlnN : Lns (⟨cp, cr, (some ⟨ggA, 0, none⟩), gc, gs, (some ⟨glA, 0, none⟩), lc, cl, (some ⟨guA, 0, none⟩), uc, cu, (some ⟨gtA, 0, none⟩), tc, ts, (some ⟨gsA, 0, none⟩), sc, (rsPut rs 1 0 ({ z1 with r := 3 } : Sp))⟩ : Stm) gs.length cl.length cu.length ts.length rs.length := ⟨rfl, rfl, rfl, rfl, qt ..⟩
    have hfwN := q7 hlnN om (qn3 hrf)
    have hokN : (⟨cp, cr, (some ⟨ggA, 0, none⟩), gc, gs, (some ⟨glA, 0, none⟩), lc, cl, (some ⟨guA, 0, none⟩), uc, cu, (some ⟨gtA, 0, none⟩), tc, ts, (some ⟨gsA, 0, none⟩), sc, (rsPut rs 1 0 ({ z1 with r := 3 } : Sp))⟩ : Stm).sta.Ok := ok_rs (x := (⟨cp, cr, some ⟨ggA, 0, none⟩, gc, gs, some ⟨glA, 0, none⟩, lc, cl, some ⟨guA, 0, none⟩, uc, cu, some ⟨gtA, 0, none⟩, tc, ts, some ⟨gsA, 0, none⟩, sc, rs⟩ : Stm)) hok0 (qn2 (x := (⟨cp, cr, some ⟨ggA, 0, none⟩, gc, gs, some ⟨glA, 0, none⟩, lc, cl, some ⟨guA, 0, none⟩, uc, cu, some ⟨gtA, 0, none⟩, tc, ts, some ⟨gsA, 0, none⟩, sc, rs⟩ : Stm)) (rows_ok hok0) ⟨hzo1.v, show (3 : Nat) < 4294967296 from by decide, hzo1.floor⟩)
    exact ⟨cp, cr, (some ⟨ggA, 0, none⟩), gc, gs, (some ⟨glA, 0, none⟩), lc, cl, (some ⟨guA, 0, none⟩), uc, cu, (some ⟨gtA, 0, none⟩), tc, ts, (some ⟨gsA, 0, none⟩), sc, (rsPut rs 1 0 ({ z1 with r := 3 } : Sp)), gs.length, cl.length, cu.length, ts.length, rs.length, hlnN, hokN, hfwN, I.sub kr, L.pt 7 [0, 1, 2, 3, 4, 5, 6]⟩
   refine (JF∘JP∘Jp 2∘Jd1∘Jj) (Je (fun hd124 => ?_) fun hd124 => ?_)
   ·
    refine (JT∘JR∘Jg 5 O0∘Jy (v := vP gtA 0) (h:=by exact Yl.indexAddr (ad := ⟨gtA, 0, none⟩) (y := 0) (sz := 8) rfl rfl rfl om kr)∘Jf 6) fun a I L => ?_
    refine fo I 4 rfl rfl ?_
    refine qk I L (i := 5) rfl rfl rfl rfl kr rfl rfl (by rw [qy tkL 8 qd]; omega) ?_
    clear L; intro w44_4 L
    replace L := L.asRow (i := 5) (ys := (ts.set 0 ({ ts.getD 0 Tk.zero with v := 1099511627776 } : Tk)).flatMap tkL) rfl (qw tkL 8 qd ts 0 (ts.getD 0 Tk.zero) ({ ts.getD 0 Tk.zero with v := 1099511627776 } : Tk) (getD_at Tk.zero om) 6 de _ rfl)
    refine Jb I L ((Jt3∘Jq) fun a I L => ?_)
    have hlnN : Lns (⟨cp, cr, (some ⟨ggA, 0, none⟩), gc, gs, (some ⟨glA, 0, none⟩), lc, cl, (some ⟨guA, 0, none⟩), uc, cu, (some ⟨gtA, 0, none⟩), tc, (ts.set 0 ({ ts.getD 0 Tk.zero with v := 1099511627776 } : Tk)), (some ⟨gsA, 0, none⟩), sc, rs⟩ : Stm) gs.length cl.length cu.length ts.length rs.length := ⟨rfl, rfl, rfl, List.length_set .., rfl⟩
    have hfwN := q7 hlnN om (hrf)
    have hokN : (⟨cp, cr, (some ⟨ggA, 0, none⟩), gc, gs, (some ⟨glA, 0, none⟩), lc, cl, (some ⟨guA, 0, none⟩), uc, cu, (some ⟨gtA, 0, none⟩), tc, (ts.set 0 ({ ts.getD 0 Tk.zero with v := 1099511627776 } : Tk)), (some ⟨gsA, 0, none⟩), sc, rs⟩ : Stm).sta.Ok := ok_ts (x := (⟨cp, cr, some ⟨ggA, 0, none⟩, gc, gs, some ⟨glA, 0, none⟩, lc, cl, some ⟨guA, 0, none⟩, uc, cu, some ⟨gtA, 0, none⟩, tc, ts, some ⟨gsA, 0, none⟩, sc, rs⟩ : Stm)) hok0 (by have h : (ts.getD 0 Tk.zero).Ok := hok0.ts _ (qf Tk.zero (show 0 < ts.length by omega)); exact ⟨h.id, h.group, h.weight, h.cpu, h.mask, show (1099511627776 : Nat) < 18446744073709551616 from by decide, h.r⟩)
    exact ⟨cp, cr, (some ⟨ggA, 0, none⟩), gc, gs, (some ⟨glA, 0, none⟩), lc, cl, (some ⟨guA, 0, none⟩), uc, cu, (some ⟨gtA, 0, none⟩), tc, (ts.set 0 ({ ts.getD 0 Tk.zero with v := 1099511627776 } : Tk)), (some ⟨gsA, 0, none⟩), sc, rs, gs.length, cl.length, cu.length, ts.length, rs.length, hlnN, hokN, hfwN, I.sub kr, L.pt 7 [0, 1, 2, 3, 4, 5, 6]⟩
   refine (JF∘JP∘Jp 2∘Jd1∘Jj) (Je (fun hd130 => ?_) fun hd130 => ?_)
   ·
    refine (JT∘Vs .n [8]) fun wd46 => (Vf 0 6∘Vf 2 6∘Vc 1 O0∘Vc 3 O0∘Vy 4 (v := vP gsA 1) (h:=by exact Yl.indexAddr (ad := ⟨gsA, 0, none⟩) (y := 1) (sz := 1) rfl rfl rfl om kr)∘Vy 5 (v := .slice ((rs.getD 1 Rw.zero).A) ((rs.getD 1 Rw.zero).l.length) ((rs.getD 1 Rw.zero).c)) (h:=by exact Yl.r1 6 1 Rw.zero om rfl rfl rfl)∘Vo (vS gy1 y1l.length y1c) (by rw [hy1])∘Vy 6 (h:=by exact Yl.qa0 ei_sp (j := 1) rfl rfl rfl om)∘Vy 7 (v := vP gsA 1) (h:=by exact Yl.indexAddr (ad := ⟨gsA, 0, none⟩) (y := 1) (sz := 1) rfl rfl rfl om kr)) fun a I L HS => ?_
    refine s_on I 8 rfl ?_
    refine qk I L (i := 6) rfl rfl rfl rfl kr rfl rfl (by rw [List.length_map]; omega) ?_
    clear L; intro w46_8 L
    replace L := L.asRow (i := 6) (ys := (rs.set 1 (⟨some ⟨gy1, 0, none⟩, y1c, y1l.take 1⟩ : Rw)).map Rw.val) rfl (by have h := zt Rw.val rs 1 (⟨some ⟨gy1, 0, none⟩, y1c, y1l.take 1⟩ : Rw) om; rw [show Rw.val (⟨some ⟨gy1, 0, none⟩, y1c, y1l.take 1⟩ : Rw) = .slice (some ⟨gy1, 0, none⟩) 1 y1c from by show Value.slice _ (y1l.take 1).length _ = _; rw [List.length_take, hl1]; rfl] at h; exact h)
    refine noS kr ?_
    refine qb kr ?_
    replace L : Mem w _ (.blk g6 #[vI cp, vQ cr, vS ggA gs.length gc, vS glA cl.length lc, vS guA cu.length uc, vS gtA ts.length tc, vS gsA rs.length sc] 45 :: .blk g2 p.cells 45 :: fG (some ⟨ggA, 0, none⟩) gs.length gc gs :: fI (some ⟨glA, 0, none⟩) cl.length lc cl :: fI (some ⟨guA, 0, none⟩) cu.length uc cu :: fT (some ⟨gtA, 0, none⟩) ts.length tc ts :: fS (some ⟨gsA, 0, none⟩) rs.length sc (rs.set 1 (⟨some ⟨gy1, 0, none⟩, y1c, y1l.take 1⟩ : Rw)) :: (fR (rs.set 1 (⟨some ⟨gy1, 0, none⟩, y1c, y1l.take 1⟩ : Rw)) ++ (stF p ++ ([])))) := Mem.qyx (T := (stF p ++ ([]))) 7 L rfl om hy1 (by omega : 1 ≤ y1l.length)
    have hlnN : Lns (⟨cp, cr, (some ⟨ggA, 0, none⟩), gc, gs, (some ⟨glA, 0, none⟩), lc, cl, (some ⟨guA, 0, none⟩), uc, cu, (some ⟨gtA, 0, none⟩), tc, ts, (some ⟨gsA, 0, none⟩), sc, (rs.set 1 (⟨some ⟨gy1, 0, none⟩, y1c, y1l.take 1⟩ : Rw))⟩ : Stm) gs.length cl.length cu.length ts.length rs.length := ⟨rfl, rfl, rfl, rfl, List.length_set ..⟩
    have hfwN := q7 hlnN om (qxi hrf om hy1)
    have hokN : (⟨cp, cr, (some ⟨ggA, 0, none⟩), gc, gs, (some ⟨glA, 0, none⟩), lc, cl, (some ⟨guA, 0, none⟩), uc, cu, (some ⟨gtA, 0, none⟩), tc, ts, (some ⟨gsA, 0, none⟩), sc, (rs.set 1 (⟨some ⟨gy1, 0, none⟩, y1c, y1l.take 1⟩ : Rw))⟩ : Stm).sta.Ok := ok_rs (x := (⟨cp, cr, some ⟨ggA, 0, none⟩, gc, gs, some ⟨glA, 0, none⟩, lc, cl, some ⟨guA, 0, none⟩, uc, cu, some ⟨gtA, 0, none⟩, tc, ts, some ⟨gsA, 0, none⟩, sc, rs⟩ : Stm)) hok0 (qvg (rows_ok hok0) om hy1)
    exact ⟨cp, cr, (some ⟨ggA, 0, none⟩), gc, gs, (some ⟨glA, 0, none⟩), lc, cl, (some ⟨guA, 0, none⟩), uc, cu, (some ⟨gtA, 0, none⟩), tc, ts, (some ⟨gsA, 0, none⟩), sc, (rs.set 1 (⟨some ⟨gy1, 0, none⟩, y1c, y1l.take 1⟩ : Rw)), gs.length, cl.length, cu.length, ts.length, rs.length, hlnN, hokN, hfwN, I.sub kr, L.pt 7 [0, 1, 2, 3, 4, 5, 6]⟩
   refine (JF∘JP∘Jp 2∘Jd1∘Jj) (Je (fun hd140 => ?_) fun hd140 => ?_)
   ·
    refine (JT∘JR∘Jg 6 O0∘Jy (h:=by exact Yl.qa0 ei_rw (j := 1) rfl rfl rfl om)∘Jf 6∘JW O0' O6') fun w48_4 => (Jt3∘Jq) fun a I L => ?_
    replace L : Mem w _ (.blk g6 #[vI cp, vQ cr, vS ggA gs.length gc, vS glA cl.length lc, vS guA cu.length uc, vS gtA ts.length tc, vS gsA 1 sc] 45 :: .blk g2 p.cells 45 :: fG (some ⟨ggA, 0, none⟩) gs.length gc gs :: fI (some ⟨glA, 0, none⟩) cl.length lc cl :: fI (some ⟨guA, 0, none⟩) cu.length uc cu :: fT (some ⟨gtA, 0, none⟩) ts.length tc ts :: fS (some ⟨gsA, 0, none⟩) 1 sc (rs.take 1) :: (fR rs ++ (stF p ++ ([])))) := L.cutR (i := 6) (m' := 1) rfl om (by rw [Nat.one_mul, List.map_take])
    replace L : Mem w _ (.blk g6 #[vI cp, vQ cr, vS ggA gs.length gc, vS glA cl.length lc, vS guA cu.length uc, vS gtA ts.length tc, vS gsA 1 sc] 45 :: .blk g2 p.cells 45 :: fG (some ⟨ggA, 0, none⟩) gs.length gc gs :: fI (some ⟨glA, 0, none⟩) cl.length lc cl :: fI (some ⟨guA, 0, none⟩) cu.length uc cu :: fT (some ⟨gtA, 0, none⟩) ts.length tc ts :: fS (some ⟨gsA, 0, none⟩) 1 sc (rs.take 1) :: (fR (rs.take 1) ++ (stF p ++ ([])))) := Mem.qyw (T := (stF p ++ ([]))) 7 L rfl 1
    have hlnN : Lns (⟨cp, cr, (some ⟨ggA, 0, none⟩), gc, gs, (some ⟨glA, 0, none⟩), lc, cl, (some ⟨guA, 0, none⟩), uc, cu, (some ⟨gtA, 0, none⟩), tc, ts, (some ⟨gsA, 0, none⟩), sc, (rs.take 1)⟩ : Stm) gs.length cl.length cu.length ts.length 1 := ⟨rfl, rfl, rfl, rfl, by show (rs.take 1).length = 1; rw [List.length_take, hls]; rfl⟩
    have hfwN := q7 hlnN om (fun y hy => hrf y (List.mem_of_mem_take hy))
    have hokN : (⟨cp, cr, (some ⟨ggA, 0, none⟩), gc, gs, (some ⟨glA, 0, none⟩), lc, cl, (some ⟨guA, 0, none⟩), uc, cu, (some ⟨gtA, 0, none⟩), tc, ts, (some ⟨gsA, 0, none⟩), sc, (rs.take 1)⟩ : Stm).sta.Ok := ok_rs (x := (⟨cp, cr, some ⟨ggA, 0, none⟩, gc, gs, some ⟨glA, 0, none⟩, lc, cl, some ⟨guA, 0, none⟩, uc, cu, some ⟨gtA, 0, none⟩, tc, ts, some ⟨gsA, 0, none⟩, sc, rs⟩ : Stm)) hok0 (fun y hy => rows_ok hok0 y (List.mem_of_mem_take hy))
    exact ⟨cp, cr, (some ⟨ggA, 0, none⟩), gc, gs, (some ⟨glA, 0, none⟩), lc, cl, (some ⟨guA, 0, none⟩), uc, cu, (some ⟨gtA, 0, none⟩), tc, ts, (some ⟨gsA, 0, none⟩), sc, (rs.take 1), gs.length, cl.length, cu.length, ts.length, 1, hlnN, hokN, hfwN, I.sub kr, L.pt 7 [0, 1, 2, 3, 4, 5, 6]⟩
   refine (JF∘JP∘Jp 2∘Jd1∘Jj) (Je (fun hd146 => ?_) fun hd146 => ?_)
   ·
    refine (JT∘JR∘Jg 5 O0∘Jy (v := vP gtA 8) (h:=by exact Yl.indexAddr (ad := ⟨gtA, 0, none⟩) (y := 1) (sz := 8) rfl rfl rfl om kr)∘Jf 5) fun a I L => ?_
    refine fo I 4 rfl rfl ?_
    refine qk I L (i := 5) rfl rfl rfl rfl kr rfl rfl (by rw [qy tkL 8 qd]; omega) ?_
    clear L; intro w50_4 L
    replace L := L.asRow (i := 5) (ys := (ts.set 1 ({ ts.getD 1 Tk.zero with ready := false } : Tk)).flatMap tkL) rfl (qw tkL 8 qd ts 1 (ts.getD 1 Tk.zero) ({ ts.getD 1 Tk.zero with ready := false } : Tk) (getD_at Tk.zero om) 5 de _ rfl)
    refine Jb I L ((Jt3∘Jq) fun a I L => ?_)
    have hlnN : Lns (⟨cp, cr, (some ⟨ggA, 0, none⟩), gc, gs, (some ⟨glA, 0, none⟩), lc, cl, (some ⟨guA, 0, none⟩), uc, cu, (some ⟨gtA, 0, none⟩), tc, (ts.set 1 ({ ts.getD 1 Tk.zero with ready := false } : Tk)), (some ⟨gsA, 0, none⟩), sc, rs⟩ : Stm) gs.length cl.length cu.length ts.length rs.length := ⟨rfl, rfl, rfl, List.length_set .., rfl⟩
    have hfwN := q7 hlnN om (hrf)
    have hokN : (⟨cp, cr, (some ⟨ggA, 0, none⟩), gc, gs, (some ⟨glA, 0, none⟩), lc, cl, (some ⟨guA, 0, none⟩), uc, cu, (some ⟨gtA, 0, none⟩), tc, (ts.set 1 ({ ts.getD 1 Tk.zero with ready := false } : Tk)), (some ⟨gsA, 0, none⟩), sc, rs⟩ : Stm).sta.Ok := ok_ts (x := (⟨cp, cr, some ⟨ggA, 0, none⟩, gc, gs, some ⟨glA, 0, none⟩, lc, cl, some ⟨guA, 0, none⟩, uc, cu, some ⟨gtA, 0, none⟩, tc, ts, some ⟨gsA, 0, none⟩, sc, rs⟩ : Stm)) hok0 (by have h : (ts.getD 1 Tk.zero).Ok := hok0.ts _ (qf Tk.zero (show 1 < ts.length by omega)); exact ⟨h.id, h.group, h.weight, h.cpu, h.mask, h.v, h.r⟩)
    exact ⟨cp, cr, (some ⟨ggA, 0, none⟩), gc, gs, (some ⟨glA, 0, none⟩), lc, cl, (some ⟨guA, 0, none⟩), uc, cu, (some ⟨gtA, 0, none⟩), tc, (ts.set 1 ({ ts.getD 1 Tk.zero with ready := false } : Tk)), (some ⟨gsA, 0, none⟩), sc, rs, gs.length, cl.length, cu.length, ts.length, rs.length, hlnN, hokN, hfwN, I.sub kr, L.pt 7 [0, 1, 2, 3, 4, 5, 6]⟩
   refine (JF∘JP∘Jp 2∘Jd1∘Jj) (Je (fun hd152 => ?_) fun hd152 => ?_)
   ·
    refine (JT∘JR∘Jg 5 O0∘Jy (v := vP gtA 8) (h:=by exact Yl.indexAddr (ad := ⟨gtA, 0, none⟩) (y := 1) (sz := 8) rfl rfl rfl om kr)∘Jf 3) fun a I L => ?_
    refine fo I 4 rfl rfl ?_
    refine qk I L (i := 5) rfl rfl rfl rfl kr rfl rfl (by rw [qy tkL 8 qd]; omega) ?_
    clear L; intro w52_4 L
    replace L := L.asRow (i := 5) (ys := (ts.set 1 ({ ts.getD 1 Tk.zero with cpu := 2 } : Tk)).flatMap tkL) rfl (qw tkL 8 qd ts 1 (ts.getD 1 Tk.zero) ({ ts.getD 1 Tk.zero with cpu := 2 } : Tk) (getD_at Tk.zero om) 3 de _ rfl)
    refine Jb I L ((Jt3∘Jq) fun a I L => ?_)
    have hlnN : Lns (⟨cp, cr, (some ⟨ggA, 0, none⟩), gc, gs, (some ⟨glA, 0, none⟩), lc, cl, (some ⟨guA, 0, none⟩), uc, cu, (some ⟨gtA, 0, none⟩), tc, (ts.set 1 ({ ts.getD 1 Tk.zero with cpu := 2 } : Tk)), (some ⟨gsA, 0, none⟩), sc, rs⟩ : Stm) gs.length cl.length cu.length ts.length rs.length := ⟨rfl, rfl, rfl, List.length_set .., rfl⟩
    have hfwN := q7 hlnN om (hrf)
    have hokN : (⟨cp, cr, (some ⟨ggA, 0, none⟩), gc, gs, (some ⟨glA, 0, none⟩), lc, cl, (some ⟨guA, 0, none⟩), uc, cu, (some ⟨gtA, 0, none⟩), tc, (ts.set 1 ({ ts.getD 1 Tk.zero with cpu := 2 } : Tk)), (some ⟨gsA, 0, none⟩), sc, rs⟩ : Stm).sta.Ok := ok_ts (x := (⟨cp, cr, some ⟨ggA, 0, none⟩, gc, gs, some ⟨glA, 0, none⟩, lc, cl, some ⟨guA, 0, none⟩, uc, cu, some ⟨gtA, 0, none⟩, tc, ts, some ⟨gsA, 0, none⟩, sc, rs⟩ : Stm)) hok0 (by have h : (ts.getD 1 Tk.zero).Ok := hok0.ts _ (qf Tk.zero (show 1 < ts.length by omega)); exact ⟨h.id, h.group, h.weight, show I64 (2 : Int) from by unfold I64; decide, h.mask, h.v, h.r⟩)
    exact ⟨cp, cr, (some ⟨ggA, 0, none⟩), gc, gs, (some ⟨glA, 0, none⟩), lc, cl, (some ⟨guA, 0, none⟩), uc, cu, (some ⟨gtA, 0, none⟩), tc, (ts.set 1 ({ ts.getD 1 Tk.zero with cpu := 2 } : Tk)), (some ⟨gsA, 0, none⟩), sc, rs, gs.length, cl.length, cu.length, ts.length, rs.length, hlnN, hokN, hfwN, I.sub kr, L.pt 7 [0, 1, 2, 3, 4, 5, 6]⟩
   refine (JF∘JP∘Jp 2∘Jd1∘Jj) (Je (fun hd158 => ?_) fun hd158 => ?_)
   ·
    refine (JT∘JR∘Jg 5 O0∘Jy (v := vP gtA 0) (h:=by exact Yl.indexAddr (ad := ⟨gtA, 0, none⟩) (y := 0) (sz := 8) rfl rfl rfl om kr)∘Jf 1) fun a I L => ?_
    refine fo I 4 rfl rfl ?_
    refine qk I L (i := 5) rfl rfl rfl rfl kr rfl rfl (by rw [qy tkL 8 qd]; omega) ?_
    clear L; intro w54_4 L
    replace L := L.asRow (i := 5) (ys := (ts.set 0 ({ ts.getD 0 Tk.zero with group := 2 } : Tk)).flatMap tkL) rfl (qw tkL 8 qd ts 0 (ts.getD 0 Tk.zero) ({ ts.getD 0 Tk.zero with group := 2 } : Tk) (getD_at Tk.zero om) 1 de _ rfl)
    refine Jb I L ((Jt3∘Jq) fun a I L => ?_)
    have hlnN : Lns (⟨cp, cr, (some ⟨ggA, 0, none⟩), gc, gs, (some ⟨glA, 0, none⟩), lc, cl, (some ⟨guA, 0, none⟩), uc, cu, (some ⟨gtA, 0, none⟩), tc, (ts.set 0 ({ ts.getD 0 Tk.zero with group := 2 } : Tk)), (some ⟨gsA, 0, none⟩), sc, rs⟩ : Stm) gs.length cl.length cu.length ts.length rs.length := ⟨rfl, rfl, rfl, List.length_set .., rfl⟩
    have hfwN := q7 hlnN om (hrf)
    have hokN : (⟨cp, cr, (some ⟨ggA, 0, none⟩), gc, gs, (some ⟨glA, 0, none⟩), lc, cl, (some ⟨guA, 0, none⟩), uc, cu, (some ⟨gtA, 0, none⟩), tc, (ts.set 0 ({ ts.getD 0 Tk.zero with group := 2 } : Tk)), (some ⟨gsA, 0, none⟩), sc, rs⟩ : Stm).sta.Ok := ok_ts (x := (⟨cp, cr, some ⟨ggA, 0, none⟩, gc, gs, some ⟨glA, 0, none⟩, lc, cl, some ⟨guA, 0, none⟩, uc, cu, some ⟨gtA, 0, none⟩, tc, ts, some ⟨gsA, 0, none⟩, sc, rs⟩ : Stm)) hok0 (by have h : (ts.getD 0 Tk.zero).Ok := hok0.ts _ (qf Tk.zero (show 0 < ts.length by omega)); exact ⟨h.id, show I64 (2 : Int) from by unfold I64; decide, h.weight, h.cpu, h.mask, h.v, h.r⟩)
    exact ⟨cp, cr, (some ⟨ggA, 0, none⟩), gc, gs, (some ⟨glA, 0, none⟩), lc, cl, (some ⟨guA, 0, none⟩), uc, cu, (some ⟨gtA, 0, none⟩), tc, (ts.set 0 ({ ts.getD 0 Tk.zero with group := 2 } : Tk)), (some ⟨gsA, 0, none⟩), sc, rs, gs.length, cl.length, cu.length, ts.length, rs.length, hlnN, hokN, hfwN, I.sub kr, L.pt 7 [0, 1, 2, 3, 4, 5, 6]⟩
   refine (JF∘JP∘Jp 2∘Jd1∘Jj) (Je (fun hd164 => ?_) fun hd164 => ?_)
   ·
    refine (JT∘JR∘Jg 4 O0∘JU zo #[vI 0]) fun w168 g168 => (JD ([0].map I64i) 5 (fun _ _ => O5') zo (hr:=by exact fun L => L.rdBlk (i := 0) (n := 1) (size := 1) rfl rfl) (h1:=by simp [Value.oneCell', I64i])) fun w169 A169 c169 hc169 => (Jf 4∘JW O1' O4') fun w56_5 => (Jt4∘Jq) fun a I L => ?_
    replace L : Mem w _ (.blk g168 #[vI 0] 3 :: .blk g6 #[vI cp, vQ cr, vS ggA gs.length gc, vS glA cl.length lc, .slice A169 (cu.length + 1) c169, vS gtA ts.length tc, vS gsA rs.length sc] 45 :: .blk g2 p.cells 45 :: fG (some ⟨ggA, 0, none⟩) gs.length gc gs :: fI (some ⟨glA, 0, none⟩) cl.length lc cl :: fI A169 (cu.length + 1) c169 (cu ++ [0]) :: fT (some ⟨gtA, 0, none⟩) ts.length tc ts :: fS (some ⟨gsA, 0, none⟩) rs.length sc rs :: (fR rs ++ (stF p ++ ([])))) := L.asRow (i := 5) (ys := (cu ++ [0]).map I64i) rfl (by rw [List.map_append])
    have hlnN : Lns (⟨cp, cr, (some ⟨ggA, 0, none⟩), gc, gs, (some ⟨glA, 0, none⟩), lc, cl, A169, c169, (cu ++ [0]), (some ⟨gtA, 0, none⟩), tc, ts, (some ⟨gsA, 0, none⟩), sc, rs⟩ : Stm) gs.length cl.length (cu.length + 1) ts.length rs.length := ⟨rfl, rfl, by show (cu ++ [0]).length = _; rw [List.length_append]; rfl, rfl, rfl⟩
    have hfwN := q7 hlnN om (hrf)
    have hokN : (⟨cp, cr, (some ⟨ggA, 0, none⟩), gc, gs, (some ⟨glA, 0, none⟩), lc, cl, A169, c169, (cu ++ [0]), (some ⟨gtA, 0, none⟩), tc, ts, (some ⟨gsA, 0, none⟩), sc, rs⟩ : Stm).sta.Ok := qyh (x := (⟨cp, cr, some ⟨ggA, 0, none⟩, gc, gs, some ⟨glA, 0, none⟩, lc, cl, some ⟨guA, 0, none⟩, uc, cu, some ⟨gtA, 0, none⟩, tc, ts, some ⟨gsA, 0, none⟩, sc, rs⟩ : Stm)) hok0 (by unfold I64; decide)
    exact ⟨cp, cr, (some ⟨ggA, 0, none⟩), gc, gs, (some ⟨glA, 0, none⟩), lc, cl, A169, c169, (cu ++ [0]), (some ⟨gtA, 0, none⟩), tc, ts, (some ⟨gsA, 0, none⟩), sc, rs, gs.length, cl.length, cu.length + 1, ts.length, rs.length, hlnN, hokN, hfwN, I.sub kr, L.pt 8 [1, 2, 3, 4, 5, 6, 7]⟩
   refine (JF∘JP∘Jp 2∘Jd1∘Jj) (Je (fun hd171 => ?_) fun hd171 => ?_)
   ·
    refine (JT∘JR∘Jg 3 O0∘Jy (v := vP glA 1) (h:=by exact Yl.indexAddr (ad := ⟨glA, 0, none⟩) (y := 1) (sz := 1) rfl rfl rfl om kr)) fun a I L => ?_
    refine fo I 3 rfl rfl ?_
    refine qk I L (i := 3) rfl rfl rfl rfl kr rfl rfl (by rw [List.length_map]; omega) ?_
    clear L; intro w58_3 L
    replace L := L.asRow (i := 3) (ys := (cl.set 1 281474976710656).map I64i) rfl (zt I64i cl 1 281474976710656 om)
    refine Jb I L ((Jt2∘Jq) fun a I L => ?_)
    have hlnN : Lns (⟨cp, cr, (some ⟨ggA, 0, none⟩), gc, gs, (some ⟨glA, 0, none⟩), lc, (cl.set 1 281474976710656), (some ⟨guA, 0, none⟩), uc, cu, (some ⟨gtA, 0, none⟩), tc, ts, (some ⟨gsA, 0, none⟩), sc, rs⟩ : Stm) gs.length cl.length cu.length ts.length rs.length := ⟨rfl, List.length_set .., rfl, rfl, rfl⟩
    have hfwN := q7 hlnN om (hrf)
    have hokN : (⟨cp, cr, (some ⟨ggA, 0, none⟩), gc, gs, (some ⟨glA, 0, none⟩), lc, (cl.set 1 281474976710656), (some ⟨guA, 0, none⟩), uc, cu, (some ⟨gtA, 0, none⟩), tc, ts, (some ⟨gsA, 0, none⟩), sc, rs⟩ : Stm).sta.Ok := ok_cl (x := (⟨cp, cr, some ⟨ggA, 0, none⟩, gc, gs, some ⟨glA, 0, none⟩, lc, cl, some ⟨guA, 0, none⟩, uc, cu, some ⟨gtA, 0, none⟩, tc, ts, some ⟨gsA, 0, none⟩, sc, rs⟩ : Stm)) hok0 (by unfold I64; decide)
    exact ⟨cp, cr, (some ⟨ggA, 0, none⟩), gc, gs, (some ⟨glA, 0, none⟩), lc, (cl.set 1 281474976710656), (some ⟨guA, 0, none⟩), uc, cu, (some ⟨gtA, 0, none⟩), tc, ts, (some ⟨gsA, 0, none⟩), sc, rs, gs.length, cl.length, cu.length, ts.length, rs.length, hlnN, hokN, hfwN, I.sub kr, L.pt 7 [0, 1, 2, 3, 4, 5, 6]⟩
   refine (JF∘JS) fun a I L => ?_
   have hlnN : Lns (⟨cp, cr, (some ⟨ggA, 0, none⟩), gc, gs, (some ⟨glA, 0, none⟩), lc, cl, (some ⟨guA, 0, none⟩), uc, cu, (some ⟨gtA, 0, none⟩), tc, ts, (some ⟨gsA, 0, none⟩), sc, rs⟩ : Stm) gs.length cl.length cu.length ts.length rs.length := ⟨rfl, rfl, rfl, rfl, rfl⟩
   have hfwN := q7 hlnN om (hrf)
   have hokN : (⟨cp, cr, (some ⟨ggA, 0, none⟩), gc, gs, (some ⟨glA, 0, none⟩), lc, cl, (some ⟨guA, 0, none⟩), uc, cu, (some ⟨gtA, 0, none⟩), tc, ts, (some ⟨gsA, 0, none⟩), sc, rs⟩ : Stm).sta.Ok := hok0
   exact ⟨cp, cr, (some ⟨ggA, 0, none⟩), gc, gs, (some ⟨glA, 0, none⟩), lc, cl, (some ⟨guA, 0, none⟩), uc, cu, (some ⟨gtA, 0, none⟩), tc, ts, (some ⟨gsA, 0, none⟩), sc, rs, gs.length, cl.length, cu.length, ts.length, rs.length, hlnN, hokN, hfwN, I.sub kr, L.pt 7 [0, 1, 2, 3, 4, 5, 6]⟩
  clear I L; rintro a w_ ⟨cp, cr, gA, gc, gs, lA, lc, cl, uA, uc, cu, tA, tc, ts, sA, sc, rs, ng, nl, nu, nt, ns, hln0, hok0, hfw0, I, L⟩
  refine wp_seq ?_
  refine Jb I L ((Vs .n []) fun wd59 => (Vy 0 (v := .agg #[vI cp, vQ cr, .slice gA ng gc, .slice lA nl lc, .slice uA nu uc, .slice tA nt tc, .slice sA ns sc]) (h:=by exact Yl.loadS rfl rfl si_st rfl (fun _ h => qa (h.blk (i := 0) rfl)))∘Vy 2 (v := .agg #[vI cp, vQ cr, .slice gA ng gc, .slice lA nl lc, .slice uA nu uc, .slice tA nt tc, .slice sA ns sc]) (h:=by exact Yl.loadS rfl rfl si_st rfl (fun _ h => qa (h.blk (i := 0) rfl)))∘VI 1 .n (h:=by exact fun L => qvf (x := (⟨cp, cr, gA, gc, gs, lA, lc, cl, uA, uc, cu, tA, tc, ts, sA, sc, rs⟩ : Stm)) hln0 (L.sdRd 2 rfl hln0) hok0 hfw0)) fun w177 hbw => (VI 3 .n (h:=by exact fun L => qti (x := (⟨cp, cr, gA, gc, gs, lA, lc, cl, uA, uc, cu, tA, tc, ts, sA, sc, rs⟩ : Stm)) hln0 (L.sdRd 2 rfl hln0) hok0 hfw0)) fun w179 hbw => (Vy 4 (v := .bool (!((qax (⟨cp, cr, gA, gc, gs, lA, lc, cl, uA, uc, cu, tA, tc, ts, sA, sc, rs⟩ : Stm).sta) == (qax (⟨cp, cr, gA, gc, gs, lA, lc, cl, uA, uc, cu, tA, tc, ts, sA, sc, rs⟩ : Stm).sta)))) (h:=by exact Yl.qxk rfl rfl rfl kr)∘Vo (.bool false) (by simp)∘Vd∘Jd4∘JF∘JS'∘JR∘JaK 1∘Jp 1∘Jd1∘Jq) fun a I L => ?_)
  replace L : Mem w _ (.blk g6 #[vI cp, vQ cr, .slice gA ng gc, .slice lA nl lc, .slice uA nu uc, .slice tA nt tc, .slice sA ns sc] 45 :: .blk g2 p.cells 45 :: fG gA ng gc gs :: fI lA nl lc cl :: fI uA nu uc cu :: fT tA nt tc ts :: fS sA ns sc rs :: (stF p ++ ([]))) := Mem.dropT (A := fR rs) 7 L rfl
  exact ⟨_, om, i + 1, by omega, rfl, I.sub kr, L.pt 7 [1]⟩
 exact (JF∘JX∘JG∘JP∘Jp 1∘Jj∘JZ) JY1
theorem qmu (w : World) :
    Calls Tryz.prog 4 #[] w (Is w (.bool true)) := by
 refine (JN0 Tryz.func4 209) ?_
 refine (JP∘Jp 1∘Jr∘Jy (v := .agg #[vI 0, vI 1]) (h:=by exact Yl.build (vs := [(0, vI 0), (1, vI 1)]) rfl kr kr)∘Jy (v := .agg #[vI 0, vI 3]) (h:=by exact Yl.build (vs := [(0, vI 0), (1, vI 3)]) rfl kr kr)∘Jy (v := .agg #[vI 1, vI 2]) (h:=by exact Yl.build (vs := [(0, vI 1), (1, vI 2)]) rfl kr kr)∘JU ei_gr #[vI 0, vI 1, vI 0, vI 3, vI 1, vI 2]) fun w28 g28 => (Jy (v := .agg #[vI 2, vQ 5, vS g28 3 3]) (h:=by exact Yl.build (vs := [(0, vI 2), (1, vQ 5), (2, vS g28 3 3)]) rfl kr kr)∘JA #[vI 0, vQ 0, vN]) fun w1 g1 => (JV zq O0') fun w1_6 => (Jd5∘Jq) fun a I L => ?_
 replace L := L.blkRow (i := 1) (n := 3) (size := 2) rfl rfl de
 replace L : Mem w _ [.blk g1 #[vI 2, vQ 5, vS g28 3 3] 33, .row (vS g28 3 3) 3 (smG.flatMap grL) 50 2] := L
 refine Jb I L ((JG∘JP∘Jy (v := .agg #[vB 1, vI 0, vI 1, vI 2, vI 2, vI 0, vI 0, vQ 3]) (h:=by exact Yl.build (vs := [(0, vB 1), (2, vI 1), (3, vI 2), (4, vI 2), (7, vQ 3)]) rfl kr kr)∘Jy (v := .agg #[vB 1, vI 0, vI 2, vI 0, vI 1, vI 0, vI 0, vQ 1]) (h:=by exact Yl.build (vs := [(0, vB 1), (2, vI 2), (4, vI 1), (7, vQ 1)]) rfl kr kr)∘Jy (v := .agg #[vB 6, vI 0, vI 0, vI 0, vI 0, vI 0, vI 0, vQ 0]) (h:=by exact Yl.build (vs := [(0, vB 6)]) rfl kr kr)∘JU ei_op #[vB 1, vI 0, vI 1, vI 2, vI 2, vI 0, vI 0, vQ 3, vB 1, vI 0, vI 2, vI 0, vI 1, vI 0, vI 0, vQ 1, vB 6, vI 0, vI 0, vI 0, vI 0, vI 0, vI 0, vQ 0]) fun w33 g33 => (Jp 1∘Jd4∘Jq) fun a I L => ?_)
 replace L := L.blkRow (i := 0) (n := 3) (size := 8) rfl rfl de
 replace L : Mem w _ [.row (vS g33 3 3) 3 (smF.flatMap opL) 52 8, .blk g1 #[vI 2, vQ 5, vS g28 3 3] 33, .row (vS g28 3 3) 3 (smG.flatMap grL) 50 2] := L
 refine Jb I L ((JG∘JP∘Jy (v := .agg #[vB 1, vI 1, vI 3, vI 1, vI 5, vI 0, vI 0, vQ 2]) (h:=by exact Yl.build (vs := [(0, vB 1), (1, vI 1), (2, vI 3), (3, vI 1), (4, vI 5), (7, vQ 2)]) rfl kr kr)∘Jy (v := .agg #[vB 2, vI 0, vI 1, vI 0, vI 0, vI 0, vI 0, vQ 0]) (h:=by exact Yl.build (vs := [(0, vB 2), (2, vI 1)]) rfl kr kr)∘Jy (v := .agg #[vB 2, vI 0, vI 2, vI 0, vI 0, vI 0, vI 0, vQ 0]) (h:=by exact Yl.build (vs := [(0, vB 2), (2, vI 2)]) rfl kr kr)∘Jy (v := .agg #[vB 3, vI 0, vI 0, vI 0, vI 0, vI 0, vI 0, vQ 0]) (h:=by exact Yl.build (vs := [(0, vB 3)]) rfl kr kr)∘Jy (v := .agg #[vB 4, vI 0, vI 0, vI 0, vI 0, vI 0, vI 0, vQ 0]) (h:=by exact Yl.build (vs := [(0, vB 4)]) rfl kr kr)∘Jy (v := .agg #[vB 5, vI 0, vI 0, vI 0, vI 0, vI 0, vI 3, vQ 0]) (h:=by exact Yl.build (vs := [(0, vB 5), (6, vI 3)]) rfl kr kr)∘Jy (v := .agg #[vB 5, vI 1, vI 0, vI 0, vI 0, vI 0, vI 1, vQ 0]) (h:=by exact Yl.build (vs := [(0, vB 5), (1, vI 1), (6, vI 1)]) rfl kr kr)∘Jy (v := .agg #[vB 6, vI 0, vI 0, vI 0, vI 0, vI 0, vI 0, vQ 0]) (h:=by exact Yl.build (vs := [(0, vB 6)]) rfl kr kr)∘Jy (v := .agg #[vB 6, vI 1, vI 0, vI 0, vI 0, vI 0, vI 0, vQ 0]) (h:=by exact Yl.build (vs := [(0, vB 6), (1, vI 1)]) rfl kr kr)∘Jy (v := .agg #[vB 7, vI 0, vI 1, vI 0, vI 7, vI 0, vI 0, vQ 0]) (h:=by exact Yl.build (vs := [(0, vB 7), (2, vI 1), (4, vI 7)]) rfl kr kr)∘Jy (v := .agg #[vB 8, vI 0, vI 0, vI 2, vI 9, vI 0, vI 0, vQ 0]) (h:=by exact Yl.build (vs := [(0, vB 8), (3, vI 2), (4, vI 9)]) rfl kr kr)∘Jy (v := .agg #[vB 9, vI 0, vI 1, vI 0, vI 0, vI 1, vI 0, vQ 0]) (h:=by exact Yl.build (vs := [(0, vB 9), (2, vI 1), (5, vI 1)]) rfl kr kr)∘Jy (v := .agg #[vB 10, vI 1, vI 0, vI 0, vI 0, vI 0, vI 0, vQ 0]) (h:=by exact Yl.build (vs := [(0, vB 10), (1, vI 1)]) rfl kr kr)∘Jy (v := .agg #[vB 9, vI 0, vI 2, vI 0, vI 0, vI 1, vI 0, vQ 0]) (h:=by exact Yl.build (vs := [(0, vB 9), (2, vI 2), (5, vI 1)]) rfl kr kr)∘JU ei_op #[vB 1, vI 1, vI 3, vI 1, vI 5, vI 0, vI 0, vQ 2, vB 2, vI 0, vI 1, vI 0, vI 0, vI 0, vI 0, vQ 0, vB 2, vI 0, vI 2, vI 0, vI 0, vI 0, vI 0, vQ 0, vB 3, vI 0, vI 0, vI 0, vI 0, vI 0, vI 0, vQ 0, vB 4, vI 0, vI 0, vI 0, vI 0, vI 0, vI 0, vQ 0, vB 5, vI 0, vI 0, vI 0, vI 0, vI 0, vI 3, vQ 0, vB 5, vI 1, vI 0, vI 0, vI 0, vI 0, vI 1, vQ 0, vB 6, vI 0, vI 0, vI 0, vI 0, vI 0, vI 0, vQ 0, vB 6, vI 1, vI 0, vI 0, vI 0, vI 0, vI 0, vQ 0, vB 7, vI 0, vI 1, vI 0, vI 7, vI 0, vI 0, vQ 0, vB 8, vI 0, vI 0, vI 2, vI 9, vI 0, vI 0, vQ 0, vB 9, vI 0, vI 1, vI 0, vI 0, vI 1, vI 0, vQ 0, vB 10, vI 1, vI 0, vI 0, vI 0, vI 0, vI 0, vQ 0, vB 9, vI 0, vI 2, vI 0, vI 0, vI 1, vI 0, vQ 0]) fun w48 g48 => (Jp 1∘Jd6∘Jq) fun a I L => ?_)
 replace L := L.blkRow (i := 0) (n := 14) (size := 8) rfl rfl de
 replace L : Mem w _ [.row (vS g48 14 14) 14 (smP.flatMap opL) 52 8, .row (vS g33 3 3) 3 (smF.flatMap opL) 52 8, .blk g1 #[vI 2, vQ 5, vS g28 3 3] 33, .row (vS g28 3 3) 3 (smG.flatMap grL) 50 2] := L
 replace L : Mem w _ (.row (vS g48 14 14) 14 (smP.flatMap opL) 52 8 :: .row (vS g33 3 3) 3 (smF.flatMap opL) 52 8 :: .blk g1 #[vI 2, vQ 5, vS g28 3 3] 33 :: .row (vS g28 3 3) 3 (smG.flatMap grL) 50 2 :: []) := L
 refine Jb I L ((JG∘JQ∘JP∘Jp 1∘Jj∘JB) fun a I L => ?_)
 refine qg (fun mS aS wS => ∃ (i : Nat), (i ≤ 2744) ∧ mS = 2744 - i ∧ Fr aS 209 [] [(49, vI i), (3, vS g48 14 14), (2, vS g33 3 3), (1, vP g1 0), (0, .bool false)] ∧ Mem w wS (.row (vS g48 14 14) 14 (smP.flatMap opL) 52 8 :: .row (vS g33 3 3) 3 (smF.flatMap opL) 52 8 :: .blk g1 #[vI 2, vQ 5, vS g28 3 3] 33 :: .row (vS g28 3 3) 3 (smG.flatMap grL) 50 2 :: [])) (m := 2744 - 0) ⟨0, Nat.zero_le _, rfl, I.sub kr, L.pt 4 [0, 1, 2, 3]⟩ ?_
 clear I L; rintro mS a w_ ⟨i, hi, rfl, I, L⟩
 refine Jb I L ((JP∘Jp 1∘Jj∘JQ) (Ju (fun hb50 => ?_) fun hb50 => ?_))
 ·
  intro a I L
  have hd50 := of_decide_eq_true hb50
  obtain ⟨q1, hq1⟩ : ∃ z, smP.getD (i % 14) Op30.zero = z := ⟨_, rfl⟩
  obtain ⟨q2, hq2⟩ : ∃ z, smP.getD (i / 14 % 14) Op30.zero = z := ⟨_, rfl⟩
  obtain ⟨q3, hq3⟩ : ∃ z, smP.getD (i / 196) Op30.zero = z := ⟨_, rfl⟩
  obtain ⟨q4, hq4⟩ : ∃ z, smP.getD (i * 5 % 14) Op30.zero = z := ⟨_, rfl⟩
  have hQ : ∀ o ∈ smF ++ [q1, q2, q3, q4], o.Ok := by rw [← hq1, ← hq2, ← hq3, ← hq4]; exact qyk _ _ _ _
  refine Jb I L ((JT∘JS'∘JQ∘JB∘JP∘Jp 2∘Jd1∘Jr∘Jy (v := .agg #[vI 2, vQ 5, vS g28 3 3]) (h:=by exact Yl.loadS rfl rfl zq rfl (fun _ h => qa (h.blk (i := 2) rfl)))∘JL (h:=by exact fun L => qv1 (L.rd (i := 3) rfl))) ?_)
  rintro L _ w54 ⟨gm, x, rfl, hx, hm⟩
  refine ⟨_, rfl, _, (show Mem w w54 (.row (vS g48 14 14) 14 (smP.flatMap opL) 52 8 :: .row (vS g33 3 3) 3 (smF.flatMap opL) 52 8 :: .blk g1 #[vI 2, vQ 5, vS g28 3 3] 33 :: .row (vS g28 3 3) 3 (smG.flatMap grL) 50 2 :: (mdB gm x ++ ([]))) from L.joinF (T := []) 4 hm rfl), ?_⟩
  refine (Jp 1∘Jx∘Jx∘Jp 2∘Jj) fun a I L => ?_
  refine wp_seq ?_
  refine qfd L [.row (vS g48 14 14) 14 (smP.flatMap opL) 52 8, .row (vS g33 3 3) 3 (smF.flatMap opL) 52 8, .blk g1 #[vI 2, vQ 5, vS g28 3 3] 33, .row (vS g28 3 3) 3 (smG.flatMap grL) 50 2] [0, 1, 2, 3] [] fun L HS => ?_
  refine qu (f := 4) (l := (bt 42 [36, 39, 40, 41])) (fun aS wS => ∃ (p : Stm) (g67 : Nat) (A69 : Option Addr) (c69 : Nat) (g92 : Nat), Fr aS 209 [] [(92, vS g92 4 4), (69, .slice A69 (0 + 3) c69), (66, .agg p.cells), (95, vI (i % 2 : Nat)), (64, vP gm 0), (63, .bool false), (56, vI 0), (55, vP gm 0), (52, .tuple #[vP gm 0, vI 0]), (54, .tuple #[vP gm 0, vI 0]), (53, .agg #[vI 2, vQ 5, vS g28 3 3]), (50, .bool true), (49, vI i), (3, vS g48 14 14), (2, vS g33 3 3), (1, vP g1 0), (0, .bool false)] ∧ Mem w wS (.blk g92 #[vB q1.kind, vI q1.cpu, vI q1.task, vI q1.group, vI q1.weight, vI q1.to, vI q1.ticks, vQ q1.mask, vB q2.kind, vI q2.cpu, vI q2.task, vI q2.group, vI q2.weight, vI q2.to, vI q2.ticks, vQ q2.mask, vB q3.kind, vI q3.cpu, vI q3.task, vI q3.group, vI q3.weight, vI q3.to, vI q3.ticks, vQ q3.mask, vB q4.kind, vI q4.cpu, vI q4.task, vI q4.group, vI q4.weight, vI q4.to, vI q4.ticks, vQ q4.mask] 52 :: .row (.slice A69 (0 + 3) c69) (0 + 3) ([] ++ (smF.flatMap opL)) 52 8 :: .row (vS g48 14 14) 14 (smP.flatMap opL) 52 8 :: .row (vS g33 3 3) 3 (smF.flatMap opL) 52 8 :: .blk g1 #[vI 2, vQ 5, vS g28 3 3] 33 :: .row (vS g28 3 3) 3 (smG.flatMap grL) 50 2 :: (stF p ++ (mdB gm x ++ ([])))) ∧ (p.sta = newS 2 5 smG) ∧ (0 + 3 ≤ c69)) ?_ fun M8_0 => ?_
  ·
   clear I L HS; rintro a wM ⟨p, g67, A69, c69, g92, I, L, hp, hc69⟩
   have HS := L.pk (fs' := [.row (vS g48 14 14) 14 (smP.flatMap opL) 52 8, .row (vS g33 3 3) 3 (smF.flatMap opL) 52 8, .blk g1 #[vI 2, vQ 5, vS g28 3 3] 33, .row (vS g28 3 3) 3 (smG.flatMap grL) 50 2]) [2, 3, 4, 5]
   refine s_on I 36 rfl (q6 I L (i := 1) rfl ei_op rfl rfl rfl (news := ([q1, q2, q3, q4].flatMap opL)) (L.rdBlk (i := 0) (n := 4) (size := 8) rfl rfl) (qjb _) om om rfl de ?_)
   clear I L; intro a w93 A93 c93 I L hc93
   refine keepS (L.pk [2, 3, 4, 5]) (fun HS => ?_)
   refine s_on I 39 rfl ?_
   refine e_cl I [vP gm 0, .agg p.cells, .slice A93 ((0 + 3) + 4) c93, vI (i % 2 : Nat)] rfl rfl (qhb (l := (smF ++ [q1, q2, q3, q4])) 6 (show Mem w _ (.blk g92 #[vB q1.kind, vI q1.cpu, vI q1.task, vI q1.group, vI q1.weight, vI q1.to, vI q1.ticks, vQ q1.mask, vB q2.kind, vI q2.cpu, vI q2.task, vI q2.group, vI q2.weight, vI q2.to, vI q2.ticks, vQ q2.mask, vB q3.kind, vI q3.cpu, vI q3.task, vI q3.group, vI q3.weight, vI q3.to, vI q3.ticks, vQ q3.mask, vB q4.kind, vI q4.cpu, vI q4.task, vI q4.group, vI q4.weight, vI q4.to, vI q4.ticks, vQ q4.mask] 52 :: .row (.slice A93 ((0 + 3) + 4) c93) ((0 + 3) + 4) (([] ++ (smF.flatMap opL)) ++ ([q1, q2, q3, q4].flatMap opL)) 52 8 :: .row (vS g48 14 14) 14 (smP.flatMap opL) 52 8 :: .row (vS g33 3 3) 3 (smF.flatMap opL) 52 8 :: .blk g1 #[vI 2, vQ 5, vS g28 3 3] 33 :: .row (vS g28 3 3) 3 (smG.flatMap grL) 50 2 :: (mdB gm x ++ (stF p ++ ([])))) from Mem.swapT (A := stF p) (B := mdB gm x) 6 L rfl) rfl hQ (qyl ..) om ((i % 2 : Nat) : Int) (by unfold I64; omega) hx hp qn5 (fun _ _ _ h hf => (sm_rd (h.rdMem (hf _ (List.mem_append_left _ (List.mem_of_getElem? (i := 1) rfl))))))) ?_
   rintro _ w96 ⟨rfl, x3, p3, s3, hx3, hp3, hG3, HM2⟩
   refine ⟨_, rfl, ?_⟩
   replace L := (show Mem w w96 (.blk g92 #[vB q1.kind, vI q1.cpu, vI q1.task, vI q1.group, vI q1.weight, vI q1.to, vI q1.ticks, vQ q1.mask, vB q2.kind, vI q2.cpu, vI q2.task, vI q2.group, vI q2.weight, vI q2.to, vI q2.ticks, vQ q2.mask, vB q3.kind, vI q3.cpu, vI q3.task, vI q3.group, vI q3.weight, vI q3.to, vI q3.ticks, vQ q3.mask, vB q4.kind, vI q4.cpu, vI q4.task, vI q4.group, vI q4.weight, vI q4.to, vI q4.ticks, vQ q4.mask] 52 :: .row (.slice A93 ((0 + 3) + 4) c93) ((0 + 3) + 4) (([] ++ (smF.flatMap opL)) ++ ([q1, q2, q3, q4].flatMap opL)) 52 8 :: .row (vS g48 14 14) 14 (smP.flatMap opL) 52 8 :: .row (vS g33 3 3) 3 (smF.flatMap opL) 52 8 :: .blk g1 #[vI 2, vQ 5, vS g28 3 3] 33 :: .row (vS g28 3 3) 3 (smG.flatMap grL) 50 2 :: (mdB gm x3 ++ (stF p3 ++ ([])))) from HM2)
   clear I; intro a I
   refine keepS (L.pk [2, 3, 4, 5]) (fun HS => ?_)
   refine ap I (fun _ => HS) [40, 41] (bt 42 []) [(98, .bool false)] fun a I => ?_
   refine qb kr ?_
   refine Jb I L ((JF∘JS'∘JR∘JaK 1∘Jp 1∘Jd1∘Jq) fun a I L => ?_)
   replace L := (show Mem w _ (.blk g92 #[vB q1.kind, vI q1.cpu, vI q1.task, vI q1.group, vI q1.weight, vI q1.to, vI q1.ticks, vQ q1.mask, vB q2.kind, vI q2.cpu, vI q2.task, vI q2.group, vI q2.weight, vI q2.to, vI q2.ticks, vQ q2.mask, vB q3.kind, vI q3.cpu, vI q3.task, vI q3.group, vI q3.weight, vI q3.to, vI q3.ticks, vQ q3.mask, vB q4.kind, vI q4.cpu, vI q4.task, vI q4.group, vI q4.weight, vI q4.to, vI q4.ticks, vQ q4.mask] 52 :: .row (.slice A93 ((0 + 3) + 4) c93) ((0 + 3) + 4) (([] ++ (smF.flatMap opL)) ++ ([q1, q2, q3, q4].flatMap opL)) 52 8 :: .row (vS g48 14 14) 14 (smP.flatMap opL) 52 8 :: .row (vS g33 3 3) 3 (smF.flatMap opL) 52 8 :: .blk g1 #[vI 2, vQ 5, vS g28 3 3] 33 :: .row (vS g28 3 3) 3 (smG.flatMap grL) 50 2 :: []) from Mem.dropT (A := stF p3) 6 (show Mem w _ (.blk g92 #[vB q1.kind, vI q1.cpu, vI q1.task, vI q1.group, vI q1.weight, vI q1.to, vI q1.ticks, vQ q1.mask, vB q2.kind, vI q2.cpu, vI q2.task, vI q2.group, vI q2.weight, vI q2.to, vI q2.ticks, vQ q2.mask, vB q3.kind, vI q3.cpu, vI q3.task, vI q3.group, vI q3.weight, vI q3.to, vI q3.ticks, vQ q3.mask, vB q4.kind, vI q4.cpu, vI q4.task, vI q4.group, vI q4.weight, vI q4.to, vI q4.ticks, vQ q4.mask] 52 :: .row (.slice A93 ((0 + 3) + 4) c93) ((0 + 3) + 4) (([] ++ (smF.flatMap opL)) ++ ([q1, q2, q3, q4].flatMap opL)) 52 8 :: .row (vS g48 14 14) 14 (smP.flatMap opL) 52 8 :: .row (vS g33 3 3) 3 (smF.flatMap opL) 52 8 :: .blk g1 #[vI 2, vQ 5, vS g28 3 3] 33 :: .row (vS g28 3 3) 3 (smG.flatMap grL) 50 2 :: (stF p3 ++ ([]))) from Mem.dropT (A := mdB gm x3) 6 L rfl) rfl)
   exact ⟨_, om, i + 1, by omega, rfl, I.sub kr, L.pt 6 [2, 3, 4, 5]⟩
  refine qu (f := 5) (l := (bt 42 [12, 36, 39, 40, 41])) (fun aS wS => ∃ (p : Stm) (g67 : Nat) (g92 : Nat), Fr aS 209 [] [(92, vS g92 4 4), (67, vS g67 0 0), (66, .agg p.cells), (95, vI (i % 2 : Nat)), (68, vS g33 3 3), (64, vP gm 0), (63, .bool false), (56, vI 0), (55, vP gm 0), (52, .tuple #[vP gm 0, vI 0]), (54, .tuple #[vP gm 0, vI 0]), (53, .agg #[vI 2, vQ 5, vS g28 3 3]), (50, .bool true), (49, vI i), (3, vS g48 14 14), (2, vS g33 3 3), (1, vP g1 0), (0, .bool false)] ∧ Mem w wS (.blk g92 #[vB q1.kind, vI q1.cpu, vI q1.task, vI q1.group, vI q1.weight, vI q1.to, vI q1.ticks, vQ q1.mask, vB q2.kind, vI q2.cpu, vI q2.task, vI q2.group, vI q2.weight, vI q2.to, vI q2.ticks, vQ q2.mask, vB q3.kind, vI q3.cpu, vI q3.task, vI q3.group, vI q3.weight, vI q3.to, vI q3.ticks, vQ q3.mask, vB q4.kind, vI q4.cpu, vI q4.task, vI q4.group, vI q4.weight, vI q4.to, vI q4.ticks, vQ q4.mask] 52 :: .row (vS g67 0 0) 0 [] 52 8 :: .row (vS g48 14 14) 14 (smP.flatMap opL) 52 8 :: .row (vS g33 3 3) 3 (smF.flatMap opL) 52 8 :: .blk g1 #[vI 2, vQ 5, vS g28 3 3] 33 :: .row (vS g28 3 3) 3 (smG.flatMap grL) 50 2 :: (stF p ++ (mdB gm x ++ ([])))) ∧ (p.sta = newS 2 5 smG)) ?_ fun M8_1 => ?_
  ·
   clear I L HS; rintro a wM ⟨p, g67, g92, I, L, hp⟩
   have HS := L.pk (fs' := [.row (vS g48 14 14) 14 (smP.flatMap opL) 52 8, .row (vS g33 3 3) 3 (smF.flatMap opL) 52 8, .blk g1 #[vI 2, vQ 5, vS g28 3 3] 33, .row (vS g28 3 3) 3 (smG.flatMap grL) 50 2]) [2, 3, 4, 5]
   refine s_on I 12 rfl (q6 I L (i := 1) rfl ei_op rfl rfl rfl (news := (smF.flatMap opL)) (L.rd (i := 3) rfl) (qjb _) om om rfl de ?_)
   clear I L; intro a w69 A69 c69 I L hc69
   refine keepS (L.pk [2, 3, 4, 5]) (fun HS => ?_)
   exact M8_0 _ _ ⟨p, g67, A69, c69, g92, I.sub kr, L.pt 6 [0, 1, 2, 3, 4, 5], hp, hc69⟩
  refine qu (f := 6) (l := (bt 42 [12, 35, 36, 39, 40, 41])) (fun aS wS => ∃ (p : Stm) (g67 : Nat), Fr aS 209 [] [(67, vS g67 0 0), (66, .agg p.cells), (95, vI (i % 2 : Nat)), (91, .agg q4.cells), (85, .agg q3.cells), (80, .agg q2.cells), (74, .agg q1.cells), (68, vS g33 3 3), (64, vP gm 0), (63, .bool false), (56, vI 0), (55, vP gm 0), (52, .tuple #[vP gm 0, vI 0]), (54, .tuple #[vP gm 0, vI 0]), (53, .agg #[vI 2, vQ 5, vS g28 3 3]), (50, .bool true), (49, vI i), (3, vS g48 14 14), (2, vS g33 3 3), (1, vP g1 0), (0, .bool false)] ∧ Mem w wS (.row (vS g67 0 0) 0 [] 52 8 :: .row (vS g48 14 14) 14 (smP.flatMap opL) 52 8 :: .row (vS g33 3 3) 3 (smF.flatMap opL) 52 8 :: .blk g1 #[vI 2, vQ 5, vS g28 3 3] 33 :: .row (vS g28 3 3) 3 (smG.flatMap grL) 50 2 :: (stF p ++ (mdB gm x ++ ([])))) ∧ (p.sta = newS 2 5 smG)) ?_ fun M8_2 => ?_
  ·
   clear I L HS; rintro a wM ⟨p, g67, I, L, hp⟩
   have HS := L.pk (fs' := [.row (vS g48 14 14) 14 (smP.flatMap opL) 52 8, .row (vS g33 3 3) 3 (smF.flatMap opL) 52 8, .blk g1 #[vI 2, vQ 5, vS g28 3 3] 33, .row (vS g28 3 3) 3 (smG.flatMap grL) 50 2]) [1, 2, 3, 4]
   refine qj [12, 35] kr rfl ?_
   refine all_cons ?_ ?_
   ·refine qe I (i := 12) rfl rfl ?_
    refine q6 I L (i := 0) rfl ei_op rfl rfl rfl (news := (smF.flatMap opL)) (L.rd (i := 2) rfl) (qjb _) om om rfl de ?_
    clear I L; intro a w69 A69 c69 I L hc69
    refine keepS (L.pk [1, 2, 3, 4]) (fun HS => ?_)
    refine s_on I 35 rfl (s_el I L ei_op [(0, .agg q1.cells), (1, .agg q2.cells), (2, .agg q3.cells), (3, .agg q4.cells)] #[vB q1.kind, vI q1.cpu, vI q1.task, vI q1.group, vI q1.weight, vI q1.to, vI q1.ticks, vQ q1.mask, vB q2.kind, vI q2.cpu, vI q2.task, vI q2.group, vI q2.weight, vI q2.to, vI q2.ticks, vQ q2.mask, vB q3.kind, vI q3.cpu, vI q3.task, vI q3.group, vI q3.weight, vI q3.to, vI q3.ticks, vQ q3.mask, vB q4.kind, vI q4.cpu, vI q4.task, vI q4.group, vI q4.weight, vI q4.to, vI q4.ticks, vQ q4.mask] ?_)
    clear I L; intro a w92 g92 I L
    refine keepS (L.pk [2, 3, 4, 5]) (fun HS => ?_)
    exact M8_0 _ _ ⟨p, g67, A69, c69, g92, I.sub kr, L.pt 6 [0, 1, 2, 3, 4, 5], hp, hc69⟩
   refine all_cons ?_ all_nil
   refine qe I (i := 35) rfl rfl ?_
   refine s_el I L ei_op [(0, .agg q1.cells), (1, .agg q2.cells), (2, .agg q3.cells), (3, .agg q4.cells)] #[vB q1.kind, vI q1.cpu, vI q1.task, vI q1.group, vI q1.weight, vI q1.to, vI q1.ticks, vQ q1.mask, vB q2.kind, vI q2.cpu, vI q2.task, vI q2.group, vI q2.weight, vI q2.to, vI q2.ticks, vQ q2.mask, vB q3.kind, vI q3.cpu, vI q3.task, vI q3.group, vI q3.weight, vI q3.to, vI q3.ticks, vQ q3.mask, vB q4.kind, vI q4.cpu, vI q4.task, vI q4.group, vI q4.weight, vI q4.to, vI q4.ticks, vQ q4.mask] ?_
   clear I L; intro a w92 g92 I L
   refine keepS (L.pk [2, 3, 4, 5]) (fun HS => ?_)
   exact M8_1 _ _ ⟨p, g67, g92, I.sub kr, L.pt 6 [0, 1, 2, 3, 4, 5], hp⟩
  refine qu (f := 6) (l := (bt 42 [10, 12, 36, 39, 40, 41])) (fun aS wS => ∃ (p : Stm) (g92 : Nat), Fr aS 209 [] [(92, vS g92 4 4), (66, .agg p.cells), (95, vI (i % 2 : Nat)), (68, vS g33 3 3), (64, vP gm 0), (63, .bool false), (56, vI 0), (55, vP gm 0), (52, .tuple #[vP gm 0, vI 0]), (54, .tuple #[vP gm 0, vI 0]), (53, .agg #[vI 2, vQ 5, vS g28 3 3]), (50, .bool true), (49, vI i), (3, vS g48 14 14), (2, vS g33 3 3), (1, vP g1 0), (0, .bool false)] ∧ Mem w wS (.blk g92 #[vB q1.kind, vI q1.cpu, vI q1.task, vI q1.group, vI q1.weight, vI q1.to, vI q1.ticks, vQ q1.mask, vB q2.kind, vI q2.cpu, vI q2.task, vI q2.group, vI q2.weight, vI q2.to, vI q2.ticks, vQ q2.mask, vB q3.kind, vI q3.cpu, vI q3.task, vI q3.group, vI q3.weight, vI q3.to, vI q3.ticks, vQ q3.mask, vB q4.kind, vI q4.cpu, vI q4.task, vI q4.group, vI q4.weight, vI q4.to, vI q4.ticks, vQ q4.mask] 52 :: .row (vS g48 14 14) 14 (smP.flatMap opL) 52 8 :: .row (vS g33 3 3) 3 (smF.flatMap opL) 52 8 :: .blk g1 #[vI 2, vQ 5, vS g28 3 3] 33 :: .row (vS g28 3 3) 3 (smG.flatMap grL) 50 2 :: (stF p ++ (mdB gm x ++ ([])))) ∧ (p.sta = newS 2 5 smG)) ?_ fun M8_3 => ?_
  ·
   clear I L HS; rintro a wM ⟨p, g92, I, L, hp⟩
   have HS := L.pk (fs' := [.row (vS g48 14 14) 14 (smP.flatMap opL) 52 8, .row (vS g33 3 3) 3 (smF.flatMap opL) 52 8, .blk g1 #[vI 2, vQ 5, vS g28 3 3] 33, .row (vS g28 3 3) 3 (smG.flatMap grL) 50 2]) [1, 2, 3, 4]
   refine s_on I 10 rfl ?_
   refine zr I L rfl ei_op rfl de ?_
   clear I L; intro a w67 g67 I L
   refine keepS (L.pk [2, 3, 4, 5]) (fun HS => ?_)
   exact M8_1 _ _ ⟨p, g67, g92, I.sub kr, L.pt 6 [1, 0, 2, 3, 4, 5], hp⟩
  refine qu (f := 6) (l := (bt 42 [9, 12, 36, 39, 40, 41])) (fun aS wS => ∃ (g67 : Nat) (g92 : Nat), Fr aS 209 [] [(92, vS g92 4 4), (67, vS g67 0 0), (95, vI (i % 2 : Nat)), (65, .agg #[vI 2, vQ 5, vS g28 3 3]), (68, vS g33 3 3), (64, vP gm 0), (63, .bool false), (56, vI 0), (55, vP gm 0), (52, .tuple #[vP gm 0, vI 0]), (54, .tuple #[vP gm 0, vI 0]), (53, .agg #[vI 2, vQ 5, vS g28 3 3]), (50, .bool true), (49, vI i), (3, vS g48 14 14), (2, vS g33 3 3), (1, vP g1 0), (0, .bool false)] ∧ Mem w wS (.blk g92 #[vB q1.kind, vI q1.cpu, vI q1.task, vI q1.group, vI q1.weight, vI q1.to, vI q1.ticks, vQ q1.mask, vB q2.kind, vI q2.cpu, vI q2.task, vI q2.group, vI q2.weight, vI q2.to, vI q2.ticks, vQ q2.mask, vB q3.kind, vI q3.cpu, vI q3.task, vI q3.group, vI q3.weight, vI q3.to, vI q3.ticks, vQ q3.mask, vB q4.kind, vI q4.cpu, vI q4.task, vI q4.group, vI q4.weight, vI q4.to, vI q4.ticks, vQ q4.mask] 52 :: .row (vS g67 0 0) 0 [] 52 8 :: .row (vS g48 14 14) 14 (smP.flatMap opL) 52 8 :: .row (vS g33 3 3) 3 (smF.flatMap opL) 52 8 :: .blk g1 #[vI 2, vQ 5, vS g28 3 3] 33 :: .row (vS g28 3 3) 3 (smG.flatMap grL) 50 2 :: (mdB gm x ++ ([])))) ?_ fun M8_4 => ?_
  ·
   clear I L HS; rintro a wM ⟨g67, g92, I, L⟩
   have HS := L.pk (fs' := [.row (vS g48 14 14) 14 (smP.flatMap opL) 52 8, .row (vS g33 3 3) 3 (smF.flatMap opL) 52 8, .blk g1 #[vI 2, vQ 5, vS g28 3 3] 33, .row (vS g28 3 3) 3 (smG.flatMap grL) 50 2]) [2, 3, 4, 5]
   refine s_on I 9 rfl ?_
   refine e_cl I [.agg #[vI 2, vQ 5, vS g28 3 3]] rfl rfl (qha (L.rd (i := 5) rfl)) ?_
   rintro _ w66 ⟨p, rfl, hp, hm⟩
   refine ⟨_, rfl, ?_⟩
   replace L := (show Mem w w66 (.blk g92 #[vB q1.kind, vI q1.cpu, vI q1.task, vI q1.group, vI q1.weight, vI q1.to, vI q1.ticks, vQ q1.mask, vB q2.kind, vI q2.cpu, vI q2.task, vI q2.group, vI q2.weight, vI q2.to, vI q2.ticks, vQ q2.mask, vB q3.kind, vI q3.cpu, vI q3.task, vI q3.group, vI q3.weight, vI q3.to, vI q3.ticks, vQ q3.mask, vB q4.kind, vI q4.cpu, vI q4.task, vI q4.group, vI q4.weight, vI q4.to, vI q4.ticks, vQ q4.mask] 52 :: .row (vS g67 0 0) 0 [] 52 8 :: .row (vS g48 14 14) 14 (smP.flatMap opL) 52 8 :: .row (vS g33 3 3) 3 (smF.flatMap opL) 52 8 :: .blk g1 #[vI 2, vQ 5, vS g28 3 3] 33 :: .row (vS g28 3 3) 3 (smG.flatMap grL) 50 2 :: (stF p ++ (mdB gm x ++ ([])))) from L.joinF (T := (mdB gm x ++ ([]))) 6 hm rfl)
   clear I; intro a I
   refine keepS (L.pk [2, 3, 4, 5]) (fun HS => ?_)
   exact M8_1 _ _ ⟨p, g67, g92, I.sub kr, L.pt 6 [0, 1, 2, 3, 4, 5], hp⟩
  refine ap I (fun _ => HS) [0, 1, 2, 3] (bf 42 [0, 1, 2, 3]) [(60, vP gm 0), (59, .bool false)] fun a I => ?_
  refine s_az I HS 4 rfl (v := .bool false) (Yl.qbk rfl rfl rfl) fun a I => ?_
  refine ap I (fun _ => HS) [5, 6, 7, 11, 13, 14, 18, 19, 24, 25, 29, 30, 37] (bf 42 [0, 1, 2, 3, 4, 5, 6, 7, 11, 13, 14, 18, 19, 24, 25, 29, 30, 37]) [(94, vI i), (87, vI i), (86, vS g48 14 14), (82, vI i), (81, vS g48 14 14), (76, vI i), (75, vS g48 14 14), (71, vI i), (70, vS g48 14 14), (68, vS g33 3 3), (64, vP gm 0), (63, .bool false)] fun a I => ?_
  refine s_az I HS 8 rfl (v := .agg #[vI 2, vQ 5, vS g28 3 3]) (Yl.loadS rfl rfl zq rfl (fun _ h => qa (h.blk (i := 2) rfl))) fun a I => ?_
  refine za I (fun _ => HS) (i := 15) rfl rfl (d := 72) rfl de kr (fun _ _ _ h => h) (v := vI (Int.tmod (i : Int) 14)) (fun _ => Yl.pure kr) fun a I => ?_
  replace I := I.sp 72 (vI (i % 14 : Nat)) rfl (qav .i64 _ 14)
  refine s_az I HS 16 rfl (v := vP g48 ((i % 14) * 8)) (Yl.ix0 g48 (i % 14) 8 rfl rfl rfl) fun a I => ?_
  refine s_az I HS 17 rfl (v := .agg ((smP.getD (i % 14) Op30.zero).cells)) (Yl.loadS rfl rfl si_op rfl (fun _ h => h.z5 qcv (i := 0) rfl ((getD_at Op30.zero (by show _ < 14; omega))))) fun a I => ?_
  replace I := I.sp 74 (.agg q1.cells) rfl (by rw [hq1])
  refine za I (fun _ => HS) (i := 20) rfl rfl (d := 77) rfl de kr (fun _ _ _ h => h) (v := vI (IntKind.i64.wrap (Int.tdiv (i : Int) 14))) (fun _ => Yl.pure kr) fun a I => ?_
  replace I := I.sp 77 (vI (i / 14 : Nat)) rfl (qii .i64 14 (by show _ ≤ 9223372036854775807; omega))
  refine za I (fun _ => HS) (i := 21) rfl rfl (d := 78) rfl de kr (fun _ _ _ h => h) (v := vI (Int.tmod ((i / 14 : Nat) : Int) 14)) (fun _ => Yl.pure kr) fun a I => ?_
  replace I := I.sp 78 (vI ((i / 14) % 14 : Nat)) rfl (qav .i64 _ 14)
  refine s_az I HS 22 rfl (v := vP g48 ((i / 14 % 14) * 8)) (Yl.ix0 g48 (i / 14 % 14) 8 rfl rfl rfl) fun a I => ?_
  refine s_az I HS 23 rfl (v := .agg ((smP.getD (i / 14 % 14) Op30.zero).cells)) (Yl.loadS rfl rfl si_op rfl (fun _ h => h.z5 qcv (i := 0) rfl ((getD_at Op30.zero (by show _ < 14; omega))))) fun a I => ?_
  replace I := I.sp 80 (.agg q2.cells) rfl (by rw [hq2])
  refine za I (fun _ => HS) (i := 26) rfl rfl (d := 83) rfl de kr (fun _ _ _ h => h) (v := vI (IntKind.i64.wrap (Int.tdiv (i : Int) 196))) (fun _ => Yl.pure kr) fun a I => ?_
  replace I := I.sp 83 (vI (i / 196 : Nat)) rfl (qii .i64 196 (by show _ ≤ 9223372036854775807; omega))
  refine s_az I HS 27 rfl (v := vP g48 ((i / 196) * 8)) (Yl.ix0 g48 (i / 196) 8 rfl rfl rfl) fun a I => ?_
  refine s_az I HS 28 rfl (v := .agg ((smP.getD (i / 196) Op30.zero).cells)) (Yl.loadS rfl rfl si_op rfl (fun _ h => h.z5 qcv (i := 0) rfl ((getD_at Op30.zero (by show _ < 14; omega))))) fun a I => ?_
  replace I := I.sp 85 (.agg q3.cells) rfl (by rw [hq3])
  refine za I (fun _ => HS) (i := 31) rfl rfl (d := 88) rfl de kr (fun _ _ _ h => h) (v := vI (IntKind.i64.wrap ((i : Int) * 5))) (fun _ => Yl.pure kr) fun a I => ?_
  replace I := I.sp 88 (vI (i * 5 : Nat)) rfl (qih om om)
  refine za I (fun _ => HS) (i := 32) rfl rfl (d := 89) rfl de kr (fun _ _ _ h => h) (v := vI (Int.tmod ((i * 5 : Nat) : Int) 14)) (fun _ => Yl.pure kr) fun a I => ?_
  replace I := I.sp 89 (vI ((i * 5) % 14 : Nat)) rfl (qav .i64 _ 14)
  refine s_az I HS 33 rfl (v := vP g48 ((i * 5 % 14) * 8)) (Yl.ix0 g48 (i * 5 % 14) 8 rfl rfl rfl) fun a I => ?_
  refine s_az I HS 34 rfl (v := .agg ((smP.getD (i * 5 % 14) Op30.zero).cells)) (Yl.loadS rfl rfl si_op rfl (fun _ h => h.z5 qcv (i := 0) rfl ((getD_at Op30.zero (by show _ < 14; omega))))) fun a I => ?_
  replace I := I.sp 91 (.agg q4.cells) rfl (by rw [hq4])
  refine za I (fun _ => HS) (i := 38) rfl rfl (d := 95) rfl de kr (fun _ _ _ h => h) (v := vI (Int.tmod (i : Int) 2)) (fun _ => Yl.pure kr) fun a I => ?_
  replace I := I.sp 95 (vI (i % 2 : Nat)) rfl (qav .i64 _ 2)
  refine qj [9, 10, 35] kr rfl ?_
  refine all_cons ?_ ?_
  ·refine qe I (i := 9) rfl rfl ?_
   refine e_cl I [.agg #[vI 2, vQ 5, vS g28 3 3]] rfl rfl (qha (L.rd (i := 3) rfl)) ?_
   rintro _ w66 ⟨p, rfl, hp, hm⟩
   refine ⟨_, rfl, ?_⟩
   replace L := (show Mem w w66 (.row (vS g48 14 14) 14 (smP.flatMap opL) 52 8 :: .row (vS g33 3 3) 3 (smF.flatMap opL) 52 8 :: .blk g1 #[vI 2, vQ 5, vS g28 3 3] 33 :: .row (vS g28 3 3) 3 (smG.flatMap grL) 50 2 :: (stF p ++ (mdB gm x ++ ([])))) from L.joinF (T := (mdB gm x ++ ([]))) 4 hm rfl)
   clear I; intro a I
   refine keepS (L.pk [0, 1, 2, 3]) (fun HS => ?_)
   refine qj [10, 35] kr rfl ?_
   refine all_cons ?_ ?_
   ·refine qe I (i := 10) rfl rfl ?_
    refine zr I L rfl ei_op rfl de ?_
    clear I L; intro a w67 g67 I L
    refine keepS (L.pk [1, 2, 3, 4]) (fun HS => ?_)
    exact M8_2 _ _ ⟨p, g67, I.sub kr, L.pt 5 [0, 1, 2, 3, 4], hp⟩
   refine all_cons ?_ all_nil
   refine qe I (i := 35) rfl rfl ?_
   refine s_el I L ei_op [(0, .agg q1.cells), (1, .agg q2.cells), (2, .agg q3.cells), (3, .agg q4.cells)] #[vB q1.kind, vI q1.cpu, vI q1.task, vI q1.group, vI q1.weight, vI q1.to, vI q1.ticks, vQ q1.mask, vB q2.kind, vI q2.cpu, vI q2.task, vI q2.group, vI q2.weight, vI q2.to, vI q2.ticks, vQ q2.mask, vB q3.kind, vI q3.cpu, vI q3.task, vI q3.group, vI q3.weight, vI q3.to, vI q3.ticks, vQ q3.mask, vB q4.kind, vI q4.cpu, vI q4.task, vI q4.group, vI q4.weight, vI q4.to, vI q4.ticks, vQ q4.mask] ?_
   clear I L; intro a w92 g92 I L
   refine keepS (L.pk [1, 2, 3, 4]) (fun HS => ?_)
   exact M8_3 _ _ ⟨p, g92, I.sub kr, L.pt 5 [0, 1, 2, 3, 4], hp⟩
  refine all_cons ?_ ?_
  ·refine qe I (i := 10) rfl rfl ?_
   refine zr I L rfl ei_op rfl de ?_
   clear I L; intro a w67 g67 I L
   refine keepS (L.pk [1, 2, 3, 4]) (fun HS => ?_)
   refine qj [9, 35] kr rfl ?_
   refine all_cons ?_ ?_
   ·refine qe I (i := 9) rfl rfl ?_
    refine e_cl I [.agg #[vI 2, vQ 5, vS g28 3 3]] rfl rfl (qha (L.rd (i := 4) rfl)) ?_
    rintro _ w66 ⟨p, rfl, hp, hm⟩
    refine ⟨_, rfl, ?_⟩
    replace L := (show Mem w w66 (.row (vS g67 0 0) 0 [] 52 8 :: .row (vS g48 14 14) 14 (smP.flatMap opL) 52 8 :: .row (vS g33 3 3) 3 (smF.flatMap opL) 52 8 :: .blk g1 #[vI 2, vQ 5, vS g28 3 3] 33 :: .row (vS g28 3 3) 3 (smG.flatMap grL) 50 2 :: (stF p ++ (mdB gm x ++ ([])))) from L.joinF (T := (mdB gm x ++ ([]))) 5 hm rfl)
    clear I; intro a I
    refine keepS (L.pk [1, 2, 3, 4]) (fun HS => ?_)
    exact M8_2 _ _ ⟨p, g67, I.sub kr, L.pt 5 [0, 1, 2, 3, 4], hp⟩
   refine all_cons ?_ all_nil
   refine qe I (i := 35) rfl rfl ?_
   refine s_el I L ei_op [(0, .agg q1.cells), (1, .agg q2.cells), (2, .agg q3.cells), (3, .agg q4.cells)] #[vB q1.kind, vI q1.cpu, vI q1.task, vI q1.group, vI q1.weight, vI q1.to, vI q1.ticks, vQ q1.mask, vB q2.kind, vI q2.cpu, vI q2.task, vI q2.group, vI q2.weight, vI q2.to, vI q2.ticks, vQ q2.mask, vB q3.kind, vI q3.cpu, vI q3.task, vI q3.group, vI q3.weight, vI q3.to, vI q3.ticks, vQ q3.mask, vB q4.kind, vI q4.cpu, vI q4.task, vI q4.group, vI q4.weight, vI q4.to, vI q4.ticks, vQ q4.mask] ?_
   clear I L; intro a w92 g92 I L
   refine keepS (L.pk [2, 3, 4, 5]) (fun HS => ?_)
   exact M8_4 _ _ ⟨g67, g92, I.sub kr, L.pt 6 [0, 1, 2, 3, 4, 5]⟩
  refine all_cons ?_ all_nil
  refine qe I (i := 35) rfl rfl ?_
  refine s_el I L ei_op [(0, .agg q1.cells), (1, .agg q2.cells), (2, .agg q3.cells), (3, .agg q4.cells)] #[vB q1.kind, vI q1.cpu, vI q1.task, vI q1.group, vI q1.weight, vI q1.to, vI q1.ticks, vQ q1.mask, vB q2.kind, vI q2.cpu, vI q2.task, vI q2.group, vI q2.weight, vI q2.to, vI q2.ticks, vQ q2.mask, vB q3.kind, vI q3.cpu, vI q3.task, vI q3.group, vI q3.weight, vI q3.to, vI q3.ticks, vQ q3.mask, vB q4.kind, vI q4.cpu, vI q4.task, vI q4.group, vI q4.weight, vI q4.to, vI q4.ticks, vQ q4.mask] ?_
  clear I L; intro a w92 g92 I L
  refine keepS (L.pk [1, 2, 3, 4]) (fun HS => ?_)
  refine qj [9, 10] kr rfl ?_
  refine all_cons ?_ ?_
  ·refine qe I (i := 9) rfl rfl ?_
   refine e_cl I [.agg #[vI 2, vQ 5, vS g28 3 3]] rfl rfl (qha (L.rd (i := 4) rfl)) ?_
   rintro _ w66 ⟨p, rfl, hp, hm⟩
   refine ⟨_, rfl, ?_⟩
   replace L := (show Mem w w66 (.blk g92 #[vB q1.kind, vI q1.cpu, vI q1.task, vI q1.group, vI q1.weight, vI q1.to, vI q1.ticks, vQ q1.mask, vB q2.kind, vI q2.cpu, vI q2.task, vI q2.group, vI q2.weight, vI q2.to, vI q2.ticks, vQ q2.mask, vB q3.kind, vI q3.cpu, vI q3.task, vI q3.group, vI q3.weight, vI q3.to, vI q3.ticks, vQ q3.mask, vB q4.kind, vI q4.cpu, vI q4.task, vI q4.group, vI q4.weight, vI q4.to, vI q4.ticks, vQ q4.mask] 52 :: .row (vS g48 14 14) 14 (smP.flatMap opL) 52 8 :: .row (vS g33 3 3) 3 (smF.flatMap opL) 52 8 :: .blk g1 #[vI 2, vQ 5, vS g28 3 3] 33 :: .row (vS g28 3 3) 3 (smG.flatMap grL) 50 2 :: (stF p ++ (mdB gm x ++ ([])))) from L.joinF (T := (mdB gm x ++ ([]))) 5 hm rfl)
   clear I; intro a I
   refine keepS (L.pk [1, 2, 3, 4]) (fun HS => ?_)
   exact M8_3 _ _ ⟨p, g92, I.sub kr, L.pt 5 [0, 1, 2, 3, 4], hp⟩
  refine all_cons ?_ all_nil
  refine qe I (i := 10) rfl rfl ?_
  refine zr I L rfl ei_op rfl de ?_
  clear I L; intro a w67 g67 I L
  refine keepS (L.pk [2, 3, 4, 5]) (fun HS => ?_)
  exact M8_4 _ _ ⟨g67, g92, I.sub kr, L.pt 6 [1, 0, 2, 3, 4, 5]⟩
 intro a I L
 have hd50 := of_decide_eq_false hb50
 refine Jb I L ((JF∘JX∘JG∘JP∘Jy (v := .agg #[vI 2, vQ 5, vS g28 3 3]) (h:=by exact Yl.loadS rfl rfl zq rfl (fun _ h => qa (h.blk (i := 2) rfl)))∘JL (h:=by exact fun L => qv1 (L.rd (i := 3) rfl))) ?_)
 rintro L _ w102 ⟨gm, x, rfl, hx, hm⟩
 refine ⟨_, rfl, _, (show Mem w w102 (.row (vS g48 14 14) 14 (smP.flatMap opL) 52 8 :: .row (vS g33 3 3) 3 (smF.flatMap opL) 52 8 :: .blk g1 #[vI 2, vQ 5, vS g28 3 3] 33 :: .row (vS g28 3 3) 3 (smG.flatMap grL) 50 2 :: (mdB gm x ++ ([]))) from L.joinF (T := []) 4 hm rfl), ?_⟩
 refine (Jp 1∘Jx∘Jx∘Jp 2∘Jj∘JQ∘JP∘Jv 4 [(108, vP gm 0), (107, .bool false)]∘Jy (v := .bool false) (h:=by exact Yl.qbk rfl rfl rfl)∘Jp 1∘Jd4∘Jj∘JF∘JS'∘JP∘Jp 1∘Jq) fun a I L => ?_
 replace L := L.nil 52 8
 refine Jb I L ((JG∘JQ∘JP∘Jp 1∘Jj∘JB) fun a I L => ?_)
 refine qg (fun mS aS wS => ∃ (k : Nat) (Aq : Option Addr) (cq : Nat) (q : List Op30), (k ≤ 12) ∧ (∀ o ∈ q, o.Ok) ∧ (q.length ≤ cq) ∧ (q.length = k * 40) ∧ mS = 12 - k ∧ Fr aS 209 [] [(111, vB k), (9, .slice Aq q.length cq), (110, .bool false), (7, vP gm 0), (50, .bool false), (49, vI i), (3, vS g48 14 14), (2, vS g33 3 3), (1, vP g1 0), (0, .bool false)] ∧ Mem w wS (.row (.slice Aq q.length cq) q.length (q.flatMap opL) 52 8 :: .blk g1 #[vI 2, vQ 5, vS g28 3 3] 33 :: .row (vS g28 3 3) 3 (smG.flatMap grL) 50 2 :: (mdB gm x ++ ([])))) (m := 12 - 0) ⟨0, none, 0, [], Nat.zero_le _, (fun o h => by cases h), Nat.le_refl _, rfl, rfl, I.sub kr, L.pt 5 [0, 3, 4]⟩ ?_
 clear I L; rintro mS a w_ ⟨k, Aq, cq, q, hk, hq, hqc, hql, rfl, I, L⟩
 refine Jb I L ((JP∘Jp 1∘Jj∘JQ) (Ji (fun hd112 => ?_) fun hd112 => ?_))
 ·
  refine (JT∘JS'∘JQ∘JB∘JP∘Jp 2∘Jd1∘Jr∘JU zo #[vI (-1), vI 0, vI 1, vI 2, vI 3, vI 65535, vI 65536, vI 65537, vI 4294967296, vI 281474976710656]) fun w114 g114 => (Jl∘Jp 1∘Jq) fun a I L => ?_
  replace L := L.blkRow (i := 0) (n := 10) (size := 1) rfl rfl de
  obtain ⟨ns, hns⟩ : ∃ l : List Int, [-1, 0, 1, 2, 3, 65535, 65536, 65537, 4294967296, 281474976710656] = l := ⟨_, rfl⟩
  replace L := L.asRow (i := 0) (ys := ns.map I64i) rfl (by rw [← hns]; rfl)
  have hnsl : ns.length = 10 := by rw [← hns]; rfl
  have hnsb : ∀ j, j < 10 → -1 ≤ ns.getD j 0 ∧ ns.getD j 0 ≤ 281474976710656 := by rw [← hns]; decide
  replace L : Mem w _ (.row (vS g114 10 10) 10 (ns.map I64i) 3 1 :: .row (.slice Aq q.length cq) q.length (q.flatMap opL) 52 8 :: .blk g1 #[vI 2, vQ 5, vS g28 3 3] 33 :: .row (vS g28 3 3) 3 (smG.flatMap grL) 50 2 :: (mdB gm x ++ ([]))) := L
  refine Jb I L ((JG∘JB) fun a I L => ?_)
  refine qg (fun mS aS wS => ∃ (j : Nat) (Aq : Option Addr) (cq : Nat) (q : List Op30), (j ≤ 10) ∧ (∀ o ∈ q, o.Ok) ∧ (q.length ≤ cq) ∧ (q.length = k * 40 + j * 4) ∧ mS = 10 - j ∧ Fr aS 209 [] [(116, vI j), (115, vI 10), (114, vS g114 10 10), (10, vB k), (112, .bool true), (111, vB k), (9, .slice Aq q.length cq), (110, .bool false), (7, vP gm 0), (50, .bool false), (49, vI i), (3, vS g48 14 14), (2, vS g33 3 3), (1, vP g1 0), (0, .bool false)] ∧ Mem w wS (.row (vS g114 10 10) 10 (ns.map I64i) 3 1 :: .row (.slice Aq q.length cq) q.length (q.flatMap opL) 52 8 :: .blk g1 #[vI 2, vQ 5, vS g28 3 3] 33 :: .row (vS g28 3 3) 3 (smG.flatMap grL) 50 2 :: (mdB gm x ++ ([])))) (m := 10 - 0) ⟨0, Aq, cq, q, Nat.zero_le _, hq, hqc, by omega, rfl, I.sub kr, L.pt 4 [0, 1, 2, 3]⟩ ?_
  clear I L; rintro mS a w_ ⟨j, Aq, cq, q, hj, hq, hqc, hqj, rfl, I, L⟩
  refine Jb I L ((JP∘Jp 1∘Jj∘JQ) (Ju (fun hb117 => ?_) fun hb117 => ?_))
  ·
   intro a I L
   have hd117 := of_decide_eq_true hb117
   obtain ⟨n, hn⟩ : ∃ z, ns.getD j 0 = z := ⟨_, rfl⟩
   have hnb := hnsb j om
   rw [hn] at hnb
   obtain ⟨r3, hr3⟩ : ∃ z, Int.tmod n 3 = z := ⟨_, rfl⟩
   have hr3b := qv2 (n := n) (m := 3) de
   rw [hr3] at hr3b
   obtain ⟨r4, hr4⟩ : ∃ z, Int.tmod n 4 = z := ⟨_, rfl⟩
   have hr4b := qv2 (n := n) (m := 4) de
   rw [hr4] at hr4b
   refine Jb I L ((JT∘JS'∘JQ∘JB∘JP∘Jy (h:=by exact Yl.ix0 g114 j 1 rfl rfl rfl)∘Jy (v := vI (ns.getD j 0)) (h:=by exact Yl.r1 0 j 0 om rfl rfl rfl)∘Jo (vI n) (by rw [hn]; try rfl)∘Jp 1∘Jd2∘Jr∘JU qxm #[vQ 0, vQ 1, vQ 3, vQ 4]) fun w120 g120 => (Jl∘Jp 1∘Jq) fun a I L => ?_)
   replace L := L.blkRow (i := 0) (n := 4) (size := 1) rfl rfl de
   obtain ⟨ms, hms⟩ : ∃ l : List Nat, [0, 1, 3, 4] = l := ⟨_, rfl⟩
   replace L := L.asRow (i := 0) (ys := ms.map U64) rfl (by rw [← hms]; rfl)
   have hmsl : ms.length = 4 := by rw [← hms]; rfl
   have hmsb : ∀ j, j < 4 → ms.getD j 0 ≤ 4 := by rw [← hms]; decide
   replace L : Mem w _ (.row (vS g120 4 4) 4 (ms.map U64) 30 1 :: .row (vS g114 10 10) 10 (ns.map I64i) 3 1 :: .row (.slice Aq q.length cq) q.length (q.flatMap opL) 52 8 :: .blk g1 #[vI 2, vQ 5, vS g28 3 3] 33 :: .row (vS g28 3 3) 3 (smG.flatMap grL) 50 2 :: (mdB gm x ++ ([]))) := L
   refine Jb I L ((JG∘JB) fun a I L => ?_)
   refine qg (fun mS aS wS => ∃ (m : Nat) (Aq : Option Addr) (cq : Nat) (q : List Op30), (m ≤ 4) ∧ (∀ o ∈ q, o.Ok) ∧ (q.length ≤ cq) ∧ (q.length = k * 40 + j * 4 + m) ∧ mS = 4 - m ∧ Fr aS 209 [] [(122, vI m), (121, vI 4), (120, vS g120 4 4), (12, vI n), (117, .bool true), (116, vI j), (115, vI 10), (114, vS g114 10 10), (10, vB k), (112, .bool true), (111, vB k), (9, .slice Aq q.length cq), (110, .bool false), (7, vP gm 0), (50, .bool false), (49, vI i), (3, vS g48 14 14), (2, vS g33 3 3), (1, vP g1 0), (0, .bool false)] ∧ Mem w wS (.row (vS g120 4 4) 4 (ms.map U64) 30 1 :: .row (vS g114 10 10) 10 (ns.map I64i) 3 1 :: .row (.slice Aq q.length cq) q.length (q.flatMap opL) 52 8 :: .blk g1 #[vI 2, vQ 5, vS g28 3 3] 33 :: .row (vS g28 3 3) 3 (smG.flatMap grL) 50 2 :: (mdB gm x ++ ([])))) (m := 4 - 0) ⟨0, Aq, cq, q, Nat.zero_le _, hq, hqc, by omega, rfl, I.sub kr, L.pt 5 [0, 1, 2, 3, 4]⟩ ?_
   clear I L; rintro mS a w_ ⟨m, Aq, cq, q, hm, hq, hqc, hqm, rfl, I, L⟩
   refine Jb I L ((JP∘Jp 1∘Jj∘JQ) (Ju (fun hb123 => ?_) fun hb123 => ?_))
   ·
    intro a I L
    have hd123 := of_decide_eq_true hb123
    obtain ⟨mk, hmk⟩ : ∃ z, ms.getD m 0 = z := ⟨_, rfl⟩
    have hmkb := hmsb m om
    rw [hmk] at hmkb
    have hopk : Op30.Ok (⟨k, r3, n, r4, n, 2 - r3, n, mk⟩ : Op30) := qms (by unfold opOk; exact decide_eq_true ⟨by show k < 256; omega, ⟨by show _ ≤ r3; omega, by show r3 ≤ _; omega⟩, ⟨by show _ ≤ n; omega, by show n ≤ _; omega⟩, ⟨by show _ ≤ r4; omega, by show r4 ≤ _; omega⟩, ⟨by show _ ≤ n; omega, by show n ≤ _; omega⟩, ⟨by show _ ≤ 2 - r3; omega, by show 2 - r3 ≤ _; omega⟩, ⟨by show _ ≤ n; omega, by show n ≤ _; omega⟩, by show mk < _; omega⟩)
    refine Jb I L ((JT∘JS'∘JQ∘JB∘JP∘Jy (h:=by exact Yl.ix0 g120 m 1 rfl rfl rfl)∘Jy (v := vQ (ms.getD m 0)) (h:=by exact Yl.r1 0 m 0 om rfl rfl rfl)∘Jo (vQ mk) (by rw [hmk]; try rfl)∘Jp 1∘Jd2∘Jj∘JR∘Jp 4∘Jo (vI r3) (by rw [hr3])∘Jp 3∘Jo (vI r4) (by rw [hr4])∘Jp 3∘Jo (vI r3) (by rw [hr3])∘Jp 1∘Jo (vI (2 - r3)) (by exact qcb ⟨by omega, by omega⟩)∘Jp 2∘Jy (v := .agg #[vB k, vI r3, vI n, vI r4, vI n, vI (2 - r3), vI n, vQ mk]) (h:=by exact Yl.build (vs := [(0, vB k), (1, vI r3), (2, vI n), (3, vI r4), (4, vI n), (5, vI (2 - r3)), (6, vI n), (7, vQ mk)]) rfl kr kr)∘JU ei_op #[vB k, vI r3, vI n, vI r4, vI n, vI (2 - r3), vI n, vQ mk]) fun w140 g140 => (JD ([(⟨k, r3, n, r4, n, 2 - r3, n, mk⟩ : Op30)].flatMap opL) 3 (fun _ _ => O3') ei_op (hr:=by exact fun L => L.rdBlk (i := 0) (n := 1) (size := 8) rfl rfl) (h1:=by exact qjb _)) fun w141 A141 c141 hc141 => (Jp 1∘Jd6∘Jq) fun a I L => ?_)
    have hnA141 : q.length + 1 = (q ++ [(⟨k, r3, n, r4, n, 2 - r3, n, mk⟩ : Op30)]).length := by rw [List.length_append]; rfl
    replace L := L.reRow (i := 3) (ys := (q ++ [(⟨k, r3, n, r4, n, 2 - r3, n, mk⟩ : Op30)]).flatMap opL) rfl hnA141 (by rw [List.flatMap_append])
    rw [hnA141] at hc141
    replace I := I.sp 9 (.slice A141 ((q ++ [(⟨k, r3, n, r4, n, 2 - r3, n, mk⟩ : Op30)]).length) c141) rfl (by rw [hnA141])
    refine Jb I L ((JG∘JR∘JaK 1∘Jp 1∘Jd1∘Jq) fun a I L => ?_)
    exact ⟨_, om, m + 1, A141, c141, (q ++ [(⟨k, r3, n, r4, n, 2 - r3, n, mk⟩ : Op30)]), by omega, (fun o ho => (List.mem_append.1 ho).elim (hq o) (fun h => by rw [List.mem_singleton.1 h]; exact hopk)), hc141, by rw [List.length_append, hqm]; rfl, rfl, I.sub kr, L.pt 6 [1, 2, 3, 4, 5]⟩
   intro a I L
   have hd123 := of_decide_eq_false hb123
   refine Jb I L ((JF∘JX∘JG∘JR∘JaK 1∘Jp 1∘Jd1∘Jq) fun a I L => ?_)
   exact ⟨_, om, j + 1, Aq, cq, q, by omega, hq, hqc, by omega, rfl, I.sub kr, L.pt 5 [1, 2, 3, 4]⟩
  intro a I L
  have hd117 := of_decide_eq_false hb117
  refine Jb I L ((JF∘JX∘JG∘JR∘JaK 1∘Jp 1∘Jd1∘Jq) fun a I L => ?_)
  exact ⟨_, om, k + 1, Aq, cq, q, by omega, hq, hqc, by omega, rfl, I.sub kr, L.pt 4 [1, 2, 3]⟩
 refine (JF∘JX∘JG∘JQ) fun a I L => ?_
 refine wp_seq ?_
 refine qfd L [.row (.slice Aq q.length cq) q.length (q.flatMap opL) 52 8, .blk g1 #[vI 2, vQ 5, vS g28 3 3] 33, .row (vS g28 3 3) 3 (smG.flatMap grL) 50 2] [0, 1, 2] [] fun L HS => ?_
 refine ap I (fun _ => HS) [0, 3] (bf 16 [0, 3]) [(148, .slice Aq q.length cq), (145, vP gm 0)] fun a I => ?_
 refine s_az I HS 1 rfl (v := .agg #[vI 2, vQ 5, vS g28 3 3]) (Yl.loadS rfl rfl zq rfl (fun _ h => qa (h.blk (i := 1) rfl))) fun a I => ?_
 refine s_az I HS 4 rfl (v := .slice Aq 240 cq) (Yl.qa0 ei_op (j := 240) rfl rfl rfl om) fun a I => ?_
 refine s_on I 2 rfl ?_
 refine e_cl I [.agg #[vI 2, vQ 5, vS g28 3 3]] rfl rfl (qha (L.rd (i := 2) rfl)) ?_
 rintro _ w147 ⟨p, rfl, hp, hm⟩
 refine ⟨_, rfl, ?_⟩
 replace L := (show Mem w w147 (.row (.slice Aq q.length cq) q.length (q.flatMap opL) 52 8 :: .blk g1 #[vI 2, vQ 5, vS g28 3 3] 33 :: .row (vS g28 3 3) 3 (smG.flatMap grL) 50 2 :: (stF p ++ (mdB gm x ++ ([])))) from L.joinF (T := (mdB gm x ++ ([]))) 3 hm rfl)
 clear I; intro a I
 refine keepS (L.pk [0, 1, 2]) (fun HS => ?_)
 refine s_on I 5 rfl ?_
 refine e_cl I [vP gm 0, .agg p.cells, .slice Aq 240 cq, vI 0] rfl rfl (qhb (l := (q.take 240)) 3 (show Mem w _ (.row (.slice Aq q.length cq) q.length (q.flatMap opL) 52 8 :: .blk g1 #[vI 2, vQ 5, vS g28 3 3] 33 :: .row (vS g28 3 3) 3 (smG.flatMap grL) 50 2 :: (mdB gm x ++ (stF p ++ ([])))) from Mem.swapT (A := stF p) (B := mdB gm x) 3 L rfl) rfl (fun o ho => hq o (List.mem_of_mem_take ho)) (by rw [List.length_take]; omega) om 0 (by unfold I64; omega) hx hp qn5 (fun _ _ _ h hf => (qxj (h.rdMem (hf _ (List.mem_append_left _ (List.mem_of_getElem? (i := 0) rfl)))) om))) ?_
 rintro _ w150 ⟨rfl, x3, p3, s3, hx3, hp3, hG3, HM2⟩
 refine ⟨_, rfl, ?_⟩
 replace L := (show Mem w w150 (.row (.slice Aq q.length cq) q.length (q.flatMap opL) 52 8 :: .blk g1 #[vI 2, vQ 5, vS g28 3 3] 33 :: .row (vS g28 3 3) 3 (smG.flatMap grL) 50 2 :: (mdB gm x3 ++ (stF p3 ++ ([])))) from HM2)
 clear I; intro a I
 refine keepS (L.pk [0, 1, 2]) (fun HS => ?_)
 refine ap I (fun _ => HS) [6, 7, 8, 9, 11] (bt 16 [10, 12, 13, 14, 15]) [(156, .slice Aq q.length cq), (154, vP gm 0), (153, vP gm 0), (152, .bool false)] fun a I => ?_
 refine s_az I HS 12 rfl (v := .slice (if cq = 240 then Aq else Aq.map (·.add (240 * 8))) (q.length - 240) (cq - 240)) (Yl.sliceFrom ei_op (j := 240) rfl rfl rfl om) fun a I => ?_
 refine s_on I 10 rfl ?_
 refine e_cl I [vP gm 0] rfl rfl (qp0 3 L rfl hx3 hG3) ?_
 rintro _ w155 ⟨p4, rfl, hp4, hcp4, hm⟩
 refine ⟨_, rfl, ?_⟩
 replace L := (show Mem w w155 (.row (.slice Aq q.length cq) q.length (q.flatMap opL) 52 8 :: .blk g1 #[vI 2, vQ 5, vS g28 3 3] 33 :: .row (vS g28 3 3) 3 (smG.flatMap grL) 50 2 :: (stF p4 ++ (mdB gm x3 ++ (stF p3 ++ ([]))))) from L.joinF (T := (mdB gm x3 ++ (stF p3 ++ ([])))) 3 hm rfl)
 clear I; intro a I
 refine keepS (L.pk [0, 1, 2]) (fun HS => ?_)
 refine s_on I 13 rfl ?_
 refine e_cl I [vP gm 0, .agg p4.cells, .slice (if cq = 240 then Aq else Aq.map (·.add (240 * 8))) (q.length - 240) (cq - 240), vI 1] rfl rfl (qhb (l := (q.drop 240)) 3 (show Mem w _ (.row (.slice Aq q.length cq) q.length (q.flatMap opL) 52 8 :: .blk g1 #[vI 2, vQ 5, vS g28 3 3] 33 :: .row (vS g28 3 3) 3 (smG.flatMap grL) 50 2 :: (mdB gm x3 ++ (stF p4 ++ (stF p3 ++ ([]))))) from Mem.swapT (A := stF p4) (B := mdB gm x3) 3 L rfl) rfl (fun o ho => hq o (List.mem_of_mem_drop ho)) (by rw [List.length_drop]) om 1 (by unfold I64; omega) (hx3.trans rfl) hp4 hG3 (fun _ _ _ h hf => (Rd.qyu qcv (h.rdMem (hf _ (List.mem_append_left _ (List.mem_of_getElem? (i := 0) rfl)))) om om))) ?_
 rintro _ w158 ⟨rfl, x5, p5, s5, hx5, hp5, hG5, HM2⟩
 refine ⟨_, rfl, ?_⟩
 replace L := (show Mem w w158 (.row (.slice Aq q.length cq) q.length (q.flatMap opL) 52 8 :: .blk g1 #[vI 2, vQ 5, vS g28 3 3] 33 :: .row (vS g28 3 3) 3 (smG.flatMap grL) 50 2 :: (mdB gm x5 ++ (stF p5 ++ (stF p3 ++ ([]))))) from HM2)
 clear I; intro a I
 refine keepS (L.pk [0, 1, 2]) (fun HS => ?_)
 refine ap I (fun _ => HS) [14, 15] (bt 16 []) [(160, .bool false)] fun a I => ?_
 refine qb kr ?_
 refine Jb I L ((JF∘JS'∘JQ∘JP∘Jy (v := .agg #[vI 0, vQ 0, vN, vN, vN, vN, vN, .bool false]) (h:=by exact Yl.build (vs := []) rfl kr kr)∘JE) fun w162 g162 => (JU ei_mp #[.pointer none, vP g162 0]) fun w163 g163 => (Jl∘Jp 1∘Jj∘JB) fun a I L => ?_)
 refine qg (fun mS aS wS => ∃ (z : Nat), (z ≤ 2) ∧ mS = 2 - z ∧ Fr aS 209 [] [(165, vI z), (164, vI 2), (163, vS g163 2 2), (160, .bool false), (112, .bool false), (111, vB k), (9, .slice Aq q.length cq), (110, .bool false), (7, vP gm 0), (50, .bool false), (49, vI i), (3, vS g48 14 14), (2, vS g33 3 3), (1, vP g1 0), (0, .bool false)] ∧ Mem w wS (.blk g163 #[.pointer none, vP g162 0] 35 :: .blk g162 #[vI 0, vQ 0, vN, vN, vN, vN, vN, .bool false] 56 :: (mdB gm x5 ++ (stF p5 ++ (stF p3 ++ ([])))))) (m := 2 - 0) ⟨0, Nat.zero_le _, rfl, I.sub kr, L.pt 5 [0, 1]⟩ ?_
 clear I L; rintro mS a w_ ⟨z, hz, rfl, I, L⟩
 refine Jb I L ((JP∘Jp 1∘Jj∘JQ) (Ji (fun hd166 => ?_) fun hd166 => ?_))
 ·
  refine (JT∘JS'∘JQ∘JB∘JQ) ?_
  repeat (first | clear I | clear L)
  intro a I L
  rcases (by omega : z = 0 ∨ z = 1) with rfl | rfl
  ·
   replace I := I.sp 165 (vI 0) rfl rfl
   refine Jb I L ((JR∘Jy (v := vP g163 0) (h:=by exact Yl.indexAddr (ad := ⟨g163, 0, none⟩) (y := 0) (sz := 1) rfl rfl rfl de kr)∘Jc O0∘Jp 1∘Jd2∘Jr∘Jp 1∘Jy (v := .agg #[vB 0, vI 0, vI 0, vI 0, vI 0, vI 0, vI 0, vQ 0]) (h:=by exact Yl.build (vs := []) rfl kr kr)∘JL (h:=by exact fun L => qxe _)) ?_)
   rintro L _ w172 ⟨rfl, hbw⟩
   refine ⟨_, rfl, _, L.call hbw, ?_⟩
   refine (Jp 1∘Jx∘Jx∘Jp 2∘Jd6∘Jr∘Jp 1∘JL (h:=by exact fun L => qpw _)) ?_
   rintro L _ w177 ⟨rfl, hbw⟩
   refine ⟨_, rfl, _, L.call hbw, ?_⟩
   refine (Jp 1∘Jx∘Jx∘JA #[vI 0, vQ 0, vN, vN, vN, vN, vN]) fun w19 g19 => (JV si_st O0') fun w34_6 => (Jp 1∘Jd6∘Jr∘Jp 1∘JL (h:=by exact fun L => qpy _)) ?_
   rintro L _ w182 ⟨rfl, hbw⟩
   refine ⟨_, rfl, _, L.call hbw, ?_⟩
   refine (Jp 1∘Jx∘Jx∘Jp 2∘Jd6∘Jr∘Jp 1∘JL (h:=by exact fun L => qmp _)) ?_
   rintro L _ w187 ⟨rfl, hbw⟩
   refine ⟨_, rfl, _, L.call hbw, ?_⟩
   refine (Jp 1∘Jx∘Jx∘Jp 2∘Jd6∘Jr∘Jv 14 [(203, .bool false)]∘Jj∘JF∘JS'∘JR∘Jv 2 [(165, vI 1)]∘Jq) fun a I L => ?_
   exact ⟨_, om, 1, by omega, rfl, I.sub kr, L.pt 3 [1, 2]⟩
  ·
   replace I := I.sp 165 (vI 1) rfl rfl
   refine Jb I L ((JR∘Jy (v := vP g163 1) (h:=by exact Yl.indexAddr (ad := ⟨g163, 0, none⟩) (y := 1) (sz := 1) rfl rfl rfl de kr)∘Jc O0∘Jp 1∘Jd2∘Jr∘Jp 1∘Jy (v := .agg #[vB 0, vI 0, vI 0, vI 0, vI 0, vI 0, vI 0, vQ 0]) (h:=by exact Yl.build (vs := []) rfl kr kr)∘JL (h:=by exact fun L => qxf _ _ (L.blk (i := 1) rfl))) ?_)
   rintro L _ w172 ⟨rfl, hbw⟩
   refine ⟨_, rfl, _, L.call hbw, ?_⟩
   refine (Jp 1∘Jx∘Jx∘Jp 2∘Jd6∘Jr∘Jp 1∘JL (h:=by exact fun L => qpx _ _ (L.blk (i := 1) rfl))) ?_
   rintro L _ w177 ⟨rfl, hbw⟩
   refine ⟨_, rfl, _, L.call hbw, ?_⟩
   refine (Jp 1∘Jx∘Jx∘JA #[vI 0, vQ 0, vN, vN, vN, vN, vN]) fun w19 g19 => (JV si_st O0') fun w34_6 => (Jp 1∘Jd6∘Jr∘Jp 1∘JL (h:=by exact fun L => qpz _ _ (L.blk (i := 2) rfl))) ?_
   rintro L _ w182 ⟨rfl, hbw⟩
   refine ⟨_, rfl, _, L.call hbw, ?_⟩
   refine (Jp 1∘Jx∘Jx∘Jp 2∘Jd6∘Jr∘Jp 1∘JL (h:=by exact fun L => qmq _ _ (L.blk (i := 2) rfl))) ?_
   rintro L _ w187 ⟨rfl, hbw⟩
   refine ⟨_, rfl, _, L.call hbw, ?_⟩
   refine (Jp 1∘Jx∘Jx∘Jp 2∘Jd6∘Jr∘Jv 14 [(203, .bool false)]∘Jj∘JF∘JS'∘JR∘Jv 2 [(165, vI 2)]∘Jq) fun a I L => ?_
   exact ⟨_, om, 2, by omega, rfl, I.sub kr, L.pt 3 [1, 2]⟩
 exact (JF∘JX∘JG∘JP∘JI (h:=by exact fun L => qjq _)) fun w205 hbw => (Jp 1∘JI (h:=by exact fun L => qme _)) fun w207 hbw => (Jp 2∘Jd4∘Jj∘JZ) JY1
end Go.Proofs.YtannicghedpdpaaGreat
