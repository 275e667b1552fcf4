/- Parts. -/
import Derived.Test.YtannicghedpdpaaGreatQtChv
import Derived.Test.YtannicghedpdpaaGreatQtZ3
set_option linter.all false
set_option maxRecDepth 100000
set_option maxHeartbeats 1000000
namespace Go.Proofs.YtannicghedpdpaaGreat
open Go.RowKit
theorem qew (x e : En) (hx : x.Ok) (d : Nat) (hd : d ≤ 4294967295) (he : x.add d = e) (w : World) : Calls Tryz.prog 116 #[.agg x.cells, vI d] w (Is w (.tuple #[.agg e.cells, vI 0])) := he ▸ qtx x hx d hd w
theorem qhs (W w : World) (x : Stm) (ng nl nu nt ns : Nat) (hx : MdOk x ng nl nu nt ns) (T : List Fact) (HM : Mem W w (sdA x ng nl nu nt ns ++ T)) (o : Op30) (ho : o.Ok) :
    Calls Tryz.prog 74 #[.agg (sdC x ng nl nu nt ns), .agg o.cells] w (OpOut W T (if o.kind = 8 then z8 x.sta o else zk x.sta o)) := by
 obtain ⟨cp, cr, gA, gc, gs, lA, lc, cl, uA, uc, cu, tA, tc, ts, sA, sc, rs⟩ := x
 replace HM : Mem W w (fG gA ng gc gs :: fI lA nl lc cl :: fI uA nu uc cu :: fT tA nt tc ts :: fS sA ns sc rs :: (fR rs ++ (T))) := HM
 have hln := hx.ln
 obtain ⟨hlg, hll, hlu, hlt, hls⟩ := hln
 replace hlg : gs.length = ng := hlg; replace hll : cl.length = nl := hll; replace hlu : cu.length = nu := hlu; replace hlt : ts.length = nt := hlt; replace hls : rs.length = ns := hls
 have hlns := hx.ln
 have hsp : SpsOk gs cp rs := hx.spots
 have hrg : rs.length = gs.length := hx.sh.rs
 have hcr : cr < 18446744073709551616 := hx.ok.credit
 obtain ⟨hcp1, hcp2, _, hgs⟩ := zf hx.sh.cfg
 replace hcp1 : 1 ≤ cp := hcp1; replace hcp2 : cp ≤ 64 := hcp2; replace hgs : gsOk gs = true := hgs
 have hgl1 := (qh hgs).1; have hgl2 := (qh hgs).2.1
 have hcll : (cl.length : Int) = cp := hx.sh.cl; have hcul : (cu.length : Int) = cp := hx.sh.cu
 have hfts : ts.length ≤ 1000000 := hx.few.t
 have hoc := ho.cpu; have hot := ho.task; have hog := ho.group; have how := ho.weight; have hoto := ho.to; have hotk := ho.ticks; have hom := ho.mask; have hok8 := ho.kind; unfold I64 at hoc hot hog how hoto hotk
 obtain ⟨ggA, rfl⟩ := qe (HM.own (i := 0) rfl) om
 obtain ⟨gsA, rfl⟩ := qe (HM.own (i := 4) rfl) om
 show Calls Tryz.prog 74 #[.agg #[vI cp, vQ cr, vS ggA ng gc, .slice lA nl lc, .slice uA nu uc, .slice tA nt tc, vS gsA ns sc], .agg o.cells] w _
 refine (Jin2 HM Tryz.func74 90) ?_
 refine (JP∘JE) fun w2 g2 => (JE) fun w3 g3 => (JA #[vI 0, vQ 0, vN, vN, vN, vN, vN]) fun w4 g4 => (Jp 2∘Jj∘JQ∘JP∘Jg 0 O1∘Jp 1∘Jd1∘Jj) (Je (fun hd11 => ?_) fun hd11 => ?_)
 ·
  refine (JT∘JQ∘JP∘Jg 3 O1∘Jp 2) (Ji (fun hd15 => ?_) fun hd15 => ?_)
  ·
   refine (Jv 8 [(23, .bool true)]∘Jd3∘Jj∘JT∘JP∘Jy (v := .agg #[vI cp, vQ cr, vS ggA ng gc, .slice lA nl lc, .slice uA nu uc, .slice tA nt tc, vS gsA ns sc]) (h:=by exact Yl.loadS rfl rfl si_st rfl (fun _ h => qa (h.blk (i := 2) rfl)))∘JV si_st O0') fun w3_1 => (Jp 2∘Jj∘JZ) fun a I HM => ?_
   exact ret3 rfl I (.cellS (i := 0) I HM rfl rfl si_st rfl) (.tmp I rfl) (.tmp I rfl) (qj (y := (⟨cp, cr, some ⟨ggA, 0, none⟩, gc, gs, lA, lc, cl, uA, uc, cu, tA, tc, ts, some ⟨gsA, 0, none⟩, sc, rs⟩ : Stm)) 3 HM rfl hlns ((if_pos om).trans (if_pos (by show ¬ (1 ≤ o.group ∧ o.group < ((rs.map Rw.l).length : Nat)); rw [List.length_map]; omega))))
  refine (Jg 3 O1∘Jf 0∘Jg 2 O2∘Jl∘Jp 2∘Jd6∘Jj) (Ji (fun hd23 => ?_) fun hd23 => ?_)
  ·
   refine (JT∘JP∘Jy (v := .agg #[vI cp, vQ cr, vS ggA ng gc, .slice lA nl lc, .slice uA nu uc, .slice tA nt tc, vS gsA ns sc]) (h:=by exact Yl.loadS rfl rfl si_st rfl (fun _ h => qa (h.blk (i := 2) rfl)))∘JV si_st O0') fun w3_1 => (Jp 2∘Jj∘JZ) fun a I HM => ?_
   exact ret3 rfl I (.cellS (i := 0) I HM rfl rfl si_st rfl) (.tmp I rfl) (.tmp I rfl) (qj (y := (⟨cp, cr, some ⟨ggA, 0, none⟩, gc, gs, lA, lc, cl, uA, uc, cu, tA, tc, ts, some ⟨gsA, 0, none⟩, sc, rs⟩ : Stm)) 3 HM rfl hlns ((if_pos om).trans (if_pos (by show ¬ (1 ≤ o.group ∧ o.group < ((rs.map Rw.l).length : Nat)); rw [List.length_map]; omega))))
  refine (JF∘JS'∘JQ∘JP∘Jg 4 O1∘JL (h:=by exact fun HM => qb1 o.weight _)) ?_
  rintro HM _ w27 ⟨rfl, hbw⟩
  refine ⟨_, rfl, _, HM.call hbw, ?_⟩
  refine (Jp 1∘Jd2∘Jj) (Ju (fun hb28 => ?_) fun hb28 => ?_)
  ·
   intro a I HM
   have hd28 := of_decide_eq_false ((Bool.not_eq_true' _).mp hb28)
   refine Jb I HM ((JT∘JP∘Jy (v := .agg #[vI cp, vQ cr, vS ggA ng gc, .slice lA nl lc, .slice uA nu uc, .slice tA nt tc, vS gsA ns sc]) (h:=by exact Yl.loadS rfl rfl si_st rfl (fun _ h => qa (h.blk (i := 2) rfl)))∘JV si_st O0') fun w5_1 => (Jp 2∘Jj∘JZ) fun a I HM => ?_)
   exact ret3 rfl I (.cellS (i := 0) I HM rfl rfl si_st rfl) (.tmp I rfl) (.tmp I rfl) (qj (y := (⟨cp, cr, some ⟨ggA, 0, none⟩, gc, gs, lA, lc, cl, uA, uc, cu, tA, tc, ts, some ⟨gsA, 0, none⟩, sc, rs⟩ : Stm)) 3 HM rfl hlns ((if_pos om).trans ((if_neg (by show ¬ ¬ (1 ≤ o.group ∧ o.group < ((rs.map Rw.l).length : Nat)); rw [List.length_map]; omega)).trans (if_pos (decide_eq_false hd28)))))
  intro a I HM
  have hd28 := of_decide_eq_true ((Bool.not_eq_false' _).mp hb28)
  have hgb : 1 ≤ o.group ∧ o.group < rs.length := by omega
  obtain ⟨g, hgg⟩ : ∃ n : Nat, o.group = (n : Int) := ⟨o.group.toNat, by omega⟩
  obtain ⟨⟨yA, yc, yl⟩, hy⟩ : ∃ y, rs.getD g Rw.zero = y := ⟨_, rfl⟩
  have hys := hsp g om; rw [hy] at hys
  have hyl : (yl.length : Int) = cp := hys.1
  obtain ⟨gr, hgr⟩ : ∃ z, gs[g]? = some z := ⟨_, List.getElem?_eq_getElem om⟩
  have hgrd := qx Gr.zero hgr
  revert HM; revert a; repeat (first | clear I | clear HM)
  intro a I HM
  obtain ⟨gy, rfl⟩ := HM.rwSome 8 rfl om hy om
  refine Jb I HM ((JF∘JS'∘JP∘Jf 0∘Jg 2 O2∘Jf 3∘Jc O1∘Jo (vI g) (by rw [hgg])∘Jg 4 O1∘Jy (h:=by exact Yl.ix0 ggA g 2 rfl rfl rfl)∘Jf 1) fun a I HM => ?_)
  refine fo I 9 rfl rfl ?_
  refine qv I HM (i := 3) rfl rfl rfl rfl kr rfl rfl (by rw [q8 grL 2 za]; omega) fun w6_9 HM => ?_
  replace HM := HM.asRow (i := 3) (ys := (gs.set g { gr with weight := o.weight }).flatMap grL) rfl (zc grL 2 za gs g gr { gr with weight := o.weight } hgr 1 de _ rfl)
  refine Jb I HM ((Jt6∘Jj∘JQ∘JP∘Jp 1∘Jd1∘Jj∘JB) fun a I HM => ?_)
  refine qi (fun mS aS wS => ∃ (c : Nat) (rs2 : List Rw), (c ≤ yl.length) ∧ (rs2.length = ns) ∧ (rs2 = (rs.set g ⟨some ⟨gy, 0, none⟩, yc, upd r0 yl c⟩)) ∧ mS = yl.length - c ∧ Fr aS 90 [] [(7, vI c), (28, .bool false), (23, .bool false), (11, .bool true), (6, vI 0), (5, vI 0), (4, vP g4 0), (3, vP g3 0), (2, vP g2 0)] ∧ Mem W wS (.blk g4 #[vI 0, vQ 0, vN, vN, vN, vN, vN] 45 :: .blk g3 o.cells 52 :: .blk g2 #[vI cp, vQ cr, vS ggA ng gc, .slice lA nl lc, .slice uA nu uc, .slice tA nt tc, vS gsA ns sc] 45 :: fG (some ⟨ggA, 0, none⟩) ng gc (gs.set g { gr with weight := o.weight }) :: fI lA nl lc cl :: fI uA nu uc cu :: fT tA nt tc ts :: fS (some ⟨gsA, 0, none⟩) ns sc rs2 :: (fR rs2 ++ (T)))) (m := yl.length - 0) ⟨0, rs, Nat.zero_le _, hls, by rw [qmc, ← hy]; exact (qb2 _ om).symm, rfl, I.sub kr, HM.pt 8 [0, 1, 2, 3, 4, 5, 6, 7]⟩ ?_
  clear I HM; rintro mS a w_ ⟨c, rs2, hc, hl2, hr2, rfl, I, HM⟩
  refine Jb I HM ((JQ∘JP∘Jp 1∘Jf 0∘Jg 0 O2∘Jp 1∘Jd3∘Jj) (Ju (fun hb43 => ?_) fun hb43 => ?_))
  ·
   intro a I HM
   have hd43 := of_decide_eq_true hb43
   have hc43 : c < yl.length := by omega
   obtain ⟨yz, hyz⟩ : ∃ z, yl[c]? = some z := ⟨_, List.getElem?_eq_getElem om⟩
   have hyz2 := (qp3 r0 (Nat.le_refl c)).trans hyz
   have hy2 : rs2.getD g Rw.zero = ⟨some ⟨gy, 0, none⟩, yc, upd r0 yl c⟩ := by rw [hr2]; exact qg _ _ om
   refine Jb I HM ((JT∘JS'∘JQ∘JB∘JR∘Jg 6 O2∘Jf 3∘Jc O1∘Jo (vI g) (by rw [hgg])∘Jy (h:=by exact Yl.ix0 gsA g 1 rfl rfl rfl)∘Jy (v := .slice ((rs2.getD g Rw.zero).A) ((rs2.getD g Rw.zero).l.length) ((rs2.getD g Rw.zero).c)) (h:=by exact Yl.r1 7 g Rw.zero om rfl rfl rfl)∘Jo (vS gy yl.length yc) (by rw [hy2]; show Value.slice _ (upd r0 yl c).length _ = _; rw [qp1])∘Jp 1∘Jy (h:=by exact Yl.ix0 gy c 3 rfl rfl rfl)∘Jf 1) fun a I HM => ?_)
   refine fo I 9 rfl rfl ?_
   refine q6 I HM 7 (c := c) 1 (r0 yz) rfl rfl rfl rfl kr rfl rfl om (hy2) (hyz2) rfl de rfl fun w10_9 HM => ?_
   replace HM : Mem W w10_9 (.blk g4 #[vI 0, vQ 0, vN, vN, vN, vN, vN] 45 :: .blk g3 o.cells 52 :: .blk g2 #[vI cp, vQ cr, vS ggA ng gc, .slice lA nl lc, .slice uA nu uc, .slice tA nt tc, vS gsA ns sc] 45 :: fG (some ⟨ggA, 0, none⟩) ng gc (gs.set g { gr with weight := o.weight }) :: fI lA nl lc cl :: fI uA nu uc cu :: fT tA nt tc ts :: fS (some ⟨gsA, 0, none⟩) ns sc (rsPut rs2 g c (r0 yz)) :: (fR (rsPut rs2 g c (r0 yz)) ++ (T))) := HM
   refine Jb I HM ((Jt6∘Jj∘JR∘Jp 1∘JaK 1∘Jp 1∘Jd4∘Jq) fun a I HM => ?_)
   exact ⟨_, om, c + 1, (rsPut rs2 g c (r0 yz)), by omega, by rw [qr]; exact hl2, qju om hyz hr2, rfl, I.sub kr, HM.pt 8 [0, 1, 2, 3, 4, 5, 6, 7]⟩
  intro a I HM
  have hd43 := of_decide_eq_false hb43
  refine Jb I HM ((JF∘JX∘JG∘JP∘Jy (v := .agg #[vI cp, vQ cr, vS ggA ng gc, .slice lA nl lc, .slice uA nu uc, .slice tA nt tc, vS gsA ns sc]) (h:=by exact Yl.loadS rfl rfl si_st rfl (fun _ h => qa (h.blk (i := 2) rfl)))∘JV si_st O0') fun w11_1 => (Jp 2∘Jj∘JZ) fun a I HM => ?_)
  exact ret3 rfl I (.cellS (i := 0) I HM rfl rfl si_st rfl) (.tmp I rfl) (.tmp I rfl) (qj (y := (⟨cp, cr, some ⟨ggA, 0, none⟩, gc, (gs.set g { gr with weight := o.weight }), lA, lc, cl, uA, uc, cu, tA, tc, ts, some ⟨gsA, 0, none⟩, sc, rs2⟩ : Stm)) 3 HM rfl ⟨by show (gs.set _ _).length = ng; rw [List.length_set]; exact hlg, hll, hlu, hlt, hl2⟩ ((if_pos om).trans ((qf5 (x := (⟨cp, cr, some ⟨ggA, 0, none⟩, gc, gs, lA, lc, cl, uA, uc, cu, tA, tc, ts, some ⟨gsA, 0, none⟩, sc, rs⟩ : Stm)) hgg hgb (decide_eq_true hd28) hy hgrd).trans (congrArg (fun r => (Stm.sta (⟨cp, cr, some ⟨ggA, 0, none⟩, gc, (gs.set g { gr with weight := o.weight }), lA, lc, cl, uA, uc, cu, tA, tc, ts, some ⟨gsA, 0, none⟩, sc, r⟩ : Stm), (0 : Int), 0)) (show _ = rs2 by rw [hr2, qp2 r0 yl om])))))
 refine (JF∘JS'∘JQ∘JP∘Jg 2 O1∘Jp 2) (Ji (fun hd59 => ?_) fun hd59 => ?_)
 ·
  refine (Jp 4∘Jd6∘Jj∘JT∘JP∘Jy (v := .agg #[vI cp, vQ cr, vS ggA ng gc, .slice lA nl lc, .slice uA nu uc, .slice tA nt tc, vS gsA ns sc]) (h:=by exact Yl.loadS rfl rfl si_st rfl (fun _ h => qa (h.blk (i := 2) rfl)))∘JV si_st O0') fun w13_1 => (Jp 2∘Jj∘JZ) fun a I HM => ?_
  exact ret3 rfl I (.cellS (i := 0) I HM rfl rfl si_st rfl) (.tmp I rfl) (.tmp I rfl) (qj (y := (⟨cp, cr, some ⟨ggA, 0, none⟩, gc, gs, lA, lc, cl, uA, uc, cu, tA, tc, ts, some ⟨gsA, 0, none⟩, sc, rs⟩ : Stm)) 3 HM rfl hlns ((if_neg om).trans (if_pos (decide_eq_false (by show ¬ (1 ≤ o.task ∧ o.task ≤ 65535); omega)))))
 refine (Jg 2 O1∘Jp 2∘Jd5∘Jj) (Ji (fun hd63 => ?_) fun hd63 => ?_)
 ·
  refine (JT∘JP∘Jy (v := .agg #[vI cp, vQ cr, vS ggA ng gc, .slice lA nl lc, .slice uA nu uc, .slice tA nt tc, vS gsA ns sc]) (h:=by exact Yl.loadS rfl rfl si_st rfl (fun _ h => qa (h.blk (i := 2) rfl)))∘JV si_st O0') fun w13_1 => (Jp 2∘Jj∘JZ) fun a I HM => ?_
  exact ret3 rfl I (.cellS (i := 0) I HM rfl rfl si_st rfl) (.tmp I rfl) (.tmp I rfl) (qj (y := (⟨cp, cr, some ⟨ggA, 0, none⟩, gc, gs, lA, lc, cl, uA, uc, cu, tA, tc, ts, some ⟨gsA, 0, none⟩, sc, rs⟩ : Stm)) 3 HM rfl hlns ((if_neg om).trans (if_pos (decide_eq_false (by show ¬ (1 ≤ o.task ∧ o.task ≤ 65535); omega)))))
 refine (JF∘JS'∘JQ∘JP∘Jg 4 O1∘JL (h:=by exact fun HM => qb1 o.weight _)) ?_
 rintro HM _ w67 ⟨rfl, hbw⟩
 refine ⟨_, rfl, _, HM.call hbw, ?_⟩
 refine (Jp 1∘Jd2∘Jj) (Ji' (fun hd68 => ?_) fun hd68 => ?_)
 ·
  refine (JT∘JP∘Jy (v := .agg #[vI cp, vQ cr, vS ggA ng gc, .slice lA nl lc, .slice uA nu uc, .slice tA nt tc, vS gsA ns sc]) (h:=by exact Yl.loadS rfl rfl si_st rfl (fun _ h => qa (h.blk (i := 2) rfl)))∘JV si_st O0') fun w15_1 => (Jp 2∘Jj∘JZ) fun a I HM => ?_
  exact ret3 rfl I (.cellS (i := 0) I HM rfl rfl si_st rfl) (.tmp I rfl) (.tmp I rfl) (qj (y := (⟨cp, cr, some ⟨ggA, 0, none⟩, gc, gs, lA, lc, cl, uA, uc, cu, tA, tc, ts, some ⟨gsA, 0, none⟩, sc, rs⟩ : Stm)) 3 HM rfl hlns ((if_neg om).trans ((if_neg (nf (decide_eq_true (by show 1 ≤ o.task ∧ o.task ≤ 65535; omega)))).trans (if_pos (decide_eq_false hd68)))))
 refine (JF∘JS'∘JP∘Jy (v := .agg #[vI cp, vQ cr, vS ggA ng gc, .slice lA nl lc, .slice uA nu uc, .slice tA nt tc, vS gsA ns sc]) (h:=by exact Yl.loadS rfl rfl si_st rfl (fun _ h => qa (h.blk (i := 2) rfl)))∘Jg 2 O1∘JI (h:=by exact fun HM => qeg (x := (⟨cp, cr, some ⟨ggA, 0, none⟩, gc, gs, lA, lc, cl, uA, uc, cu, tA, tc, ts, some ⟨gsA, 0, none⟩, sc, rs⟩ : Stm)) hlns (HM.sdRd 3 rfl hlns) hfts o.task)) fun w73 hbw => (Jp 1∘Jd3∘Jj∘JQ∘JP∘Jp 2∘Jd1∘Jj) (Ju (fun hb75 => ?_) fun hb75 => ?_)
 ·
  intro a I HM
  have hd75 := of_decide_eq_true hb75
  refine Jb I HM ((JT∘JP∘Jy (v := .agg #[vI cp, vQ cr, vS ggA ng gc, .slice lA nl lc, .slice uA nu uc, .slice tA nt tc, vS gsA ns sc]) (h:=by exact Yl.loadS rfl rfl si_st rfl (fun _ h => qa (h.blk (i := 2) rfl)))∘JV si_st O0') fun w18_1 => (Jp 2∘Jj∘JZ) fun a I HM => ?_)
  exact ret3 rfl I (.cellS (i := 0) I HM rfl rfl si_st rfl) (.tmp I rfl) (.tmp I rfl) (qj (y := (⟨cp, cr, some ⟨ggA, 0, none⟩, gc, gs, lA, lc, cl, uA, uc, cu, tA, tc, ts, some ⟨gsA, 0, none⟩, sc, rs⟩ : Stm)) 3 HM rfl hlns ((if_neg om).trans ((if_neg (nf (decide_eq_true (by show 1 ≤ o.task ∧ o.task ≤ 65535; omega)))).trans ((if_neg (nf (decide_eq_true hd68))).trans (if_pos (hd75))))))
 intro a I HM
 have hd75 := of_decide_eq_false hb75
 obtain ⟨k, t, hk, ht, hkl, hkid⟩ := qco hd75
 replace hk : fidx ts o.task = (k : Int) := hk; replace ht : ts[k]? = some t := ht; replace hkl : k < ts.length := hkl
 obtain ⟨wt, hwt⟩ : ∃ n : Nat, o.weight = (n : Int) := ⟨o.weight.toNat, by omega⟩
 revert HM; revert a; repeat (first | clear I | clear HM)
 intro a I HM
 obtain ⟨gtA, rfl⟩ := qe (HM.own (i := 6) rfl) (Nat.lt_of_le_of_lt (Nat.zero_le _) (show k < nt from (by omega : k < nt)))
 refine Jb I HM ((JF∘JS') fun a I HM => ?_)
 refine wp_seq ?_
 refine Jb I HM ((Vs (.t (.t (.t (.t (.t (.t (.f .n))))))) [13]) fun wd19 => (Vf 0 5∘Vf 3 5∘Vf 6 4∘Vc 1 O2∘Vp [2]∘Vo (vI k) (by rw [hk])∘Vc 4 O2∘Vp [5]∘Vo (vI k) (by rw [hk])∘Vc 7 O1∘Vy 8 (h:=by exact Yl.ix0 gtA k 8 rfl rfl rfl)∘Vf 9 2) fun a I HM HS => ?_)
 refine s_on I 10 rfl ?_
 refine qv I HM (i := 6) rfl rfl rfl rfl kr rfl rfl (by rw [q8 tkL 8 qd]; omega) fun w19_10 HM => ?_
 replace HM := HM.asRow (i := 6) (ys := (ts.set k { t with weight := o.weight }).flatMap tkL) rfl (zc tkL 8 qd ts k t { t with weight := o.weight } ht 2 de _ rfl)
 refine keepS (HM.pt 8 [0, 1, 2, 3, 4, 5, 7]) (fun HS => ?_)
 refine Vb I HM HS ((Vu 11 (h:=by exact fun _ => Yl.ix0 gtA k 8 rfl rfl rfl)∘Vf 12 7) fun a I HM HS => ?_)
 refine s_on I 13 rfl ?_
 refine qv I HM (i := 6) rfl rfl rfl rfl kr rfl rfl (by rw [q8 tkL 8 qd, List.length_set]; omega) fun w19_13 HM => ?_
 replace HM := HM.asRow (i := 6) (ys := (ts.set k { t with r := 0, weight := o.weight }).flatMap tkL) rfl ((zc tkL 8 qd (ts.set k { t with weight := o.weight }) k { t with weight := o.weight } { t with r := 0, weight := o.weight } (qba ht) 7 de _ rfl).trans (by rw [List.set_set]))
 refine noS kr ?_
 refine qb kr ?_
 refine Jb I HM ((JP∘Jy (v := .agg #[vI cp, vQ cr, vS ggA ng gc, .slice lA nl lc, .slice uA nu uc, vS gtA nt tc, vS gsA ns sc]) (h:=by exact Yl.loadS rfl rfl si_st rfl (fun _ h => qa (h.blk (i := 2) rfl)))∘JV si_st O0') fun w20_1 => (Jp 2∘Jj∘JZ) fun a I HM => ?_)
 exact ret3 rfl I (.cellS (i := 0) I HM rfl rfl si_st rfl) (.tmp I rfl) (.tmp I rfl) (qj (y := (⟨cp, cr, some ⟨ggA, 0, none⟩, gc, gs, lA, lc, cl, uA, uc, cu, some ⟨gtA, 0, none⟩, tc, (ts.set k { t with r := 0, weight := o.weight }), some ⟨gsA, 0, none⟩, sc, rs⟩ : Stm)) 3 HM rfl ⟨hlg, hll, hlu, by show (ts.set _ _).length = nt; rw [List.length_set]; exact hlt, hls⟩ ((if_neg om).trans ((qe6 (x := (⟨cp, cr, some ⟨ggA, 0, none⟩, gc, gs, lA, lc, cl, uA, uc, cu, some ⟨gtA, 0, none⟩, tc, ts, some ⟨gsA, 0, none⟩, sc, rs⟩ : Stm)) (decide_eq_true (by show 1 ≤ o.task ∧ o.task ≤ 65535; omega)) (decide_eq_true hd68) hk ht hwt).trans (by rw [hwt]; try rfl))))
theorem qr5 (W w : World) (x : Stm) (ng nl nu nt ns : Nat) (hx : MdOk x ng nl nu nt ns) (T : List Fact) (HM : Mem W w (sdA x ng nl nu nt ns ++ T)) (o : Op30) (ho : o.Ok) (hcur : ∀ c, c < x.cu.length → curOk x.sta c = true) :
    Calls Tryz.prog 73 #[.agg (sdC x ng nl nu nt ns), .agg o.cells] w (OpOut W T (tickS x.sta o)) := by
 obtain ⟨cp, cr, gA, gc, gs, lA, lc, cl, uA, uc, cu, tA, tc, ts, sA, sc, rs⟩ := x
 replace HM : Mem W w (fG gA ng gc gs :: fI lA nl lc cl :: fI uA nu uc cu :: fT tA nt tc ts :: fS sA ns sc rs :: (fR rs ++ (T))) := HM
 have hln := hx.ln
 obtain ⟨hlg, hll, hlu, hlt, hls⟩ := hln
 replace hlg : gs.length = ng := hlg; replace hll : cl.length = nl := hll; replace hlu : cu.length = nu := hlu; replace hlt : ts.length = nt := hlt; replace hls : rs.length = ns := hls
 have hlns := hx.ln
 have hsp : SpsOk gs cp rs := hx.spots
 have hrg : rs.length = gs.length := hx.sh.rs
 have hcr : cr < 18446744073709551616 := hx.ok.credit
 obtain ⟨hcp1, hcp2, _, hgs⟩ := zf hx.sh.cfg
 replace hcp1 : 1 ≤ cp := hcp1; replace hcp2 : cp ≤ 64 := hcp2; replace hgs : gsOk gs = true := hgs
 have hgl1 := (qh hgs).1; have hgl2 := (qh hgs).2.1
 have hcll : (cl.length : Int) = cp := hx.sh.cl; have hcul : (cu.length : Int) = cp := hx.sh.cu
 have hfts : ts.length ≤ 1000000 := hx.few.t
 have hoc := ho.cpu; have hot := ho.task; have hog := ho.group; have how := ho.weight; have hoto := ho.to; have hotk := ho.ticks; have hom := ho.mask; have hok8 := ho.kind; unfold I64 at hoc hot hog how hoto hotk
 have hcuo := hx.ok.cu; have hclo := hx.ok.cl
 have hcls := hx.sh.cls
 obtain ⟨ggA, rfl⟩ := qe (HM.own (i := 0) rfl) om
 obtain ⟨glA, rfl⟩ := qe (HM.own (i := 1) rfl) om
 obtain ⟨guA, rfl⟩ := qe (HM.own (i := 2) rfl) om
 obtain ⟨gsA, rfl⟩ := qe (HM.own (i := 4) rfl) om
 show Calls Tryz.prog 73 #[.agg #[vI cp, vQ cr, vS ggA ng gc, vS glA nl lc, vS guA nu uc, .slice tA nt tc, vS gsA ns sc], .agg o.cells] w _
 refine (Jin2 HM Tryz.func73 164) ?_
 refine (JP∘JE) fun w2 g2 => (JE) fun w3 g3 => (JA #[vI 0, vQ 0, vN, vN, vN, vN, vN]) fun w4 g4 => (Jp 2∘Jj∘JQ∘JB∘JP∘Jg 1 O1∘Jp 2) (Ji (fun hd20 => ?_) fun hd20 => ?_)
 ·
  refine (Jv 8 [(16, .bool true)]∘Jd3∘Jj∘JT∘JP∘Jy (v := .agg #[vI cp, vQ cr, vS ggA ng gc, vS glA nl lc, vS guA nu uc, .slice tA nt tc, vS gsA ns sc]) (h:=by exact Yl.loadS rfl rfl si_st rfl (fun _ h => qa (h.blk (i := 2) rfl)))∘JV si_st O0') fun w2_1 => (Jp 2∘Jj∘JZ) fun a I HM => ?_
  exact ret3 rfl I (.cellS (i := 0) I HM rfl rfl si_st rfl) (.tmp I rfl) (.tmp I rfl) (qj (y := (⟨cp, cr, some ⟨ggA, 0, none⟩, gc, gs, some ⟨glA, 0, none⟩, lc, cl, some ⟨guA, 0, none⟩, uc, cu, tA, tc, ts, some ⟨gsA, 0, none⟩, sc, rs⟩ : Stm)) 3 HM rfl hlns (if_pos (decide_eq_false (by show ¬ (0 ≤ o.cpu ∧ o.cpu < cp); omega))))
 refine (Jg 1 O1∘Jf 0∘Jg 0 O2∘Jp 3∘Jd6∘Jj) (Ju (fun hb16 => ?_) fun hb16 => ?_)
 ·
  intro a I HM
  have hd16 := of_decide_eq_true hb16
  refine Jb I HM ((JT∘JP∘Jy (v := .agg #[vI cp, vQ cr, vS ggA ng gc, vS glA nl lc, vS guA nu uc, .slice tA nt tc, vS gsA ns sc]) (h:=by exact Yl.loadS rfl rfl si_st rfl (fun _ h => qa (h.blk (i := 2) rfl)))∘JV si_st O0') fun w2_1 => (Jp 2∘Jj∘JZ) fun a I HM => ?_)
  exact ret3 rfl I (.cellS (i := 0) I HM rfl rfl si_st rfl) (.tmp I rfl) (.tmp I rfl) (qj (y := (⟨cp, cr, some ⟨ggA, 0, none⟩, gc, gs, some ⟨glA, 0, none⟩, lc, cl, some ⟨guA, 0, none⟩, uc, cu, tA, tc, ts, some ⟨gsA, 0, none⟩, sc, rs⟩ : Stm)) 3 HM rfl hlns (if_pos (decide_eq_false (by show ¬ (0 ≤ o.cpu ∧ o.cpu < cp); omega))))
 intro a I HM
 have hd16 := of_decide_eq_false hb16
 obtain ⟨c, hcc⟩ : ∃ n : Nat, o.cpu = (n : Int) := ⟨o.cpu.toNat, by omega⟩
 have hccp : ((c : Nat) : Int) < cp := by omega
 have hclb := hcls c (by show c < cl.length; omega); replace hclb : 0 ≤ (cl.getD c 0) ∧ (cl.getD c 0) ≤ 281474976710656 := by unfold clOk at hclb; simpa using hclb
 obtain ⟨v, hv⟩ : ∃ z, (cl.getD c 0) = z := ⟨_, rfl⟩
 rw [hv] at hclb
 refine Jb I HM ((JF∘JP∘Jg 6 O1∘Jp 2) (Ji (fun hd33 => ?_) fun hd33 => ?_))
 ·
  refine (Jp 5∘Jd6∘Jj∘JT∘JP∘Jy (v := .agg #[vI cp, vQ cr, vS ggA ng gc, vS glA nl lc, vS guA nu uc, .slice tA nt tc, vS gsA ns sc]) (h:=by exact Yl.loadS rfl rfl si_st rfl (fun _ h => qa (h.blk (i := 2) rfl)))∘JV si_st O0') fun w4_1 => (Jp 2∘Jj∘JZ) fun a I HM => ?_
  exact ret3 rfl I (.cellS (i := 0) I HM rfl rfl si_st rfl) (.tmp I rfl) (.tmp I rfl) (qj (y := (⟨cp, cr, some ⟨ggA, 0, none⟩, gc, gs, some ⟨glA, 0, none⟩, lc, cl, some ⟨guA, 0, none⟩, uc, cu, tA, tc, ts, some ⟨gsA, 0, none⟩, sc, rs⟩ : Stm)) 3 HM rfl hlns ((if_neg (nf (decide_eq_true (by show 0 ≤ o.cpu ∧ o.cpu < cp; omega)))).trans (if_pos om)))
 refine (Jg 6 O1∘Jp 3∘Jd6∘Jj) (Ju (fun hb29 => ?_) fun hb29 => ?_)
 ·
  intro a I HM
  have hd29 := of_decide_eq_true hb29
  refine Jb I HM ((JT∘JP∘Jy (v := .agg #[vI cp, vQ cr, vS ggA ng gc, vS glA nl lc, vS guA nu uc, .slice tA nt tc, vS gsA ns sc]) (h:=by exact Yl.loadS rfl rfl si_st rfl (fun _ h => qa (h.blk (i := 2) rfl)))∘JV si_st O0') fun w4_1 => (Jp 2∘Jj∘JZ) fun a I HM => ?_)
  exact ret3 rfl I (.cellS (i := 0) I HM rfl rfl si_st rfl) (.tmp I rfl) (.tmp I rfl) (qj (y := (⟨cp, cr, some ⟨ggA, 0, none⟩, gc, gs, some ⟨glA, 0, none⟩, lc, cl, some ⟨guA, 0, none⟩, uc, cu, tA, tc, ts, some ⟨gsA, 0, none⟩, sc, rs⟩ : Stm)) 3 HM rfl hlns ((if_neg (nf (decide_eq_true (by show 0 ≤ o.cpu ∧ o.cpu < cp; omega)))).trans (if_pos om)))
 intro a I HM
 have hd29 := of_decide_eq_false hb29
 have htk : 1 ≤ o.ticks ∧ o.ticks ≤ 4294967295 := by omega
 obtain ⟨d, hod⟩ : ∃ n : Nat, o.ticks = (n : Int) := ⟨o.ticks.toNat, by omega⟩
 have hd0 : d ≤ 4294967295 := by omega
 refine Jb I HM ((JF) fun a I HM => ?_)
 refine wp_seq ?_
 refine Jb I HM ((Vs .n []) fun wd5 => (Vf 0 3∘Vf 2 1∘Vf 6 6∘Vc 1 O2∘Vc 3 O1∘Vo (vI c) (by rw [hcc])∘Vy 4 (h:=by exact Yl.ix0 glA c 1 rfl rfl rfl)∘Vy 5 (v := vI (cl.getD c 0)) (h:=by exact Yl.r1 4 c 0 om rfl rfl rfl)∘Vo (vI v) (by rw [hv])∘Vc 7 O1∘Vo (vI d) (by rw [hod])∘Vp [8]∘Vo (vI (v + d)) (by exact qcj ⟨by omega, by omega⟩)∘Vp [9, 10]∘Vd∘Jd6) (Ju (fun hb39 => ?_) fun hb39 => ?_))
 ·
  intro a I HM
  have hd39 := of_decide_eq_true hb39
  refine Jb I HM ((JT∘JP∘Jy (v := .agg #[vI cp, vQ cr, vS ggA ng gc, vS glA nl lc, vS guA nu uc, .slice tA nt tc, vS gsA ns sc]) (h:=by exact Yl.loadS rfl rfl si_st rfl (fun _ h => qa (h.blk (i := 2) rfl)))∘JV si_st O0') fun w6_1 => (Jp 2∘Jj∘JZ) fun a I HM => ?_)
  exact ret3 rfl I (.cellS (i := 0) I HM rfl rfl si_st rfl) (.tmp I rfl) (.tmp I rfl) (qj (y := (⟨cp, cr, some ⟨ggA, 0, none⟩, gc, gs, some ⟨glA, 0, none⟩, lc, cl, some ⟨guA, 0, none⟩, uc, cu, tA, tc, ts, some ⟨gsA, 0, none⟩, sc, rs⟩ : Stm)) 3 HM rfl hlns ((if_neg (nf (decide_eq_true (by show 0 ≤ o.cpu ∧ o.cpu < cp; omega)))).trans ((if_neg om).trans (if_pos (by show 281474976710656 < cl.getD o.cpu.toNat 0 + o.ticks; rw [hcc, Int.toNat_natCast, hv]; omega)))))
 intro a I HM
 have hd39 := of_decide_eq_false hb39
 obtain ⟨id, hid⟩ : ∃ z, cu.getD c 0 = z := ⟨_, rfl⟩
 have hidI : I64 id := by rw [← hid]; exact hcuo _ (qm 0 (by show c < cu.length; omega))
 unfold I64 at hidI
 refine Jb I HM ((JF∘JS') fun a I HM => ?_)
 refine wp_seq ?_
 refine Jb I HM ((Vs .n [14]) fun wd7 => (Vf 0 3∘Vf 2 1∘Vf 4 3∘Vf 6 1∘Vf 10 6∘Vc 1 O2∘Vc 3 O1∘Vo (vI c) (by rw [hcc])∘Vc 5 O2∘Vc 7 O1∘Vo (vI c) (by rw [hcc])∘Vy 8 (h:=by exact Yl.ix0 glA c 1 rfl rfl rfl)∘Vy 9 (v := vI (cl.getD c 0)) (h:=by exact Yl.r1 4 c 0 om rfl rfl rfl)∘Vo (vI v) (by rw [hv])∘Vc 11 O1∘Vo (vI d) (by rw [hod])∘Vp [12]∘Vo (vI (v + d)) (by exact qcj ⟨by omega, by omega⟩)∘Vy 13 (h:=by exact Yl.ix0 glA c 1 rfl rfl rfl)) fun a I HM HS => ?_)
 refine s_on I 14 rfl ?_
 refine qv I HM (i := 4) rfl rfl rfl rfl kr rfl rfl (by rw [List.length_map]; omega) fun w7_14 HM => ?_
 replace HM := HM.asRow (i := 4) (ys := (cl.set c (v + d)).map I64i) rfl (qa6 I64i cl c (v + d) om)
 refine noS kr ?_
 refine qb kr ?_
 refine Jb I HM ((JP∘Jg 4 O2∘Jf 1∘Jc O1∘Jo (vI c) (by rw [hcc])∘Jy (h:=by exact Yl.ix0 guA c 1 rfl rfl rfl)∘Jy (v := vI (cu.getD c 0)) (h:=by exact Yl.r1 5 c 0 om rfl rfl rfl)∘Jo (vI id) (by rw [hid])∘Jp 1∘Jd6∘Jj∘JQ∘JP∘Jp 2∘Jd1∘Jj) (Ju (fun hb72 => ?_) fun hb72 => ?_))
 ·
  intro a I HM
  have hd72 := eq_of_beq hb72
  refine Jb I HM ((JT∘JP∘Jy (v := .agg #[vI cp, vQ cr, vS ggA ng gc, vS glA nl lc, vS guA nu uc, .slice tA nt tc, vS gsA ns sc]) (h:=by exact Yl.loadS rfl rfl si_st rfl (fun _ h => qa (h.blk (i := 2) rfl)))∘JV si_st O0') fun w10_1 => (Jp 2∘Jj∘JZ) fun a I HM => ?_)
  exact ret3 rfl I (.cellS (i := 0) I HM rfl rfl si_st rfl) (.tmp I rfl) (.tmp I rfl) (qj (y := (⟨cp, cr, some ⟨ggA, 0, none⟩, gc, gs, some ⟨glA, 0, none⟩, lc, (cl.set c (v + d)), some ⟨guA, 0, none⟩, uc, cu, tA, tc, ts, some ⟨gsA, 0, none⟩, sc, rs⟩ : Stm)) 3 HM rfl ⟨hlg, by show (cl.set _ _).length = nl; rw [List.length_set]; exact hll, hlu, hlt, hls⟩ ((qjt (x := (⟨cp, cr, some ⟨ggA, 0, none⟩, gc, gs, some ⟨glA, 0, none⟩, lc, cl, some ⟨guA, 0, none⟩, uc, cu, tA, tc, ts, some ⟨gsA, 0, none⟩, sc, rs⟩ : Stm)) (decide_eq_true (by show 0 ≤ o.cpu ∧ o.cpu < cp; omega)) htk hcc hv om (hid.trans om)).trans (by rw [hod])))
 intro a I HM
 have hd72 := ne_of_beq_false hb72
 have hid0 : id ≠ 0 := by omega
 have hcuk := qef (x := (⟨cp, cr, some ⟨ggA, 0, none⟩, gc, gs, some ⟨glA, 0, none⟩, lc, cl, some ⟨guA, 0, none⟩, uc, cu, tA, tc, ts, some ⟨gsA, 0, none⟩, sc, rs⟩ : Stm)) (hcur c (by show c < cu.length; omega)) (by show cu.getD c 0 ≠ 0; rw [hid]; exact hid0)
 rw [show (⟨cp, cr, some ⟨ggA, 0, none⟩, gc, gs, some ⟨glA, 0, none⟩, lc, cl, some ⟨guA, 0, none⟩, uc, cu, tA, tc, ts, some ⟨gsA, 0, none⟩, sc, rs⟩ : Stm).cu.getD c 0 = id from hid] at hcuk
 obtain ⟨k, t, hk, ht, hkl, hkid⟩ := hcuk
 replace hk : fidx ts id = (k : Int) := hk; replace ht : ts[k]? = some t := ht; replace hkl : k < ts.length := hkl
 obtain ⟨htg, hto⟩ := hx.task ht
 have hti := htg.id; have htgr := htg.group; have htc := htg.cpu; have htw := htg.weight; have htv := hto.v; have htr := hto.r; have htm := hto.mask
 replace htc : 0 ≤ t.cpu ∧ t.cpu < cp := htc
 obtain ⟨gt, hgt⟩ : ∃ n : Nat, t.group = (n : Int) := ⟨t.group.toNat, by omega⟩
 obtain ⟨ct, hct⟩ : ∃ n : Nat, t.cpu = (n : Int) := ⟨t.cpu.toNat, by omega⟩
 obtain ⟨wt, hwt⟩ : ∃ n : Nat, t.weight = (n : Int) := ⟨t.weight.toNat, by omega⟩
 have hEo : (⟨t.v, t.r, wt⟩ : En).Ok := En.qda htg.ent hwt htv
 obtain ⟨e, hew⟩ : ∃ e, (⟨t.v, t.r, wt⟩ : En).add d = e := ⟨_, rfl⟩
 have heo : e.Ok ∧ e.w = wt := by rw [← hew]; exact En.qhu hEo d
 revert HM; revert a; repeat (first | clear I | clear HM)
 intro a I HM
 obtain ⟨gtA, rfl⟩ := qe (HM.own (i := 6) rfl) (Nat.lt_of_le_of_lt (Nat.zero_le _) (show k < nt from (by omega : k < nt)))
 refine Jb I HM ((JF∘JS'∘JP∘Jy (v := .agg #[vI cp, vQ cr, vS ggA ng gc, vS glA nl lc, vS guA nu uc, vS gtA nt tc, vS gsA ns sc]) (h:=by exact Yl.loadS rfl rfl si_st rfl (fun _ h => qa (h.blk (i := 2) rfl)))∘Jp 1∘JI (h:=by exact fun HM => qrz (x := (⟨cp, cr, some ⟨ggA, 0, none⟩, gc, gs, some ⟨glA, 0, none⟩, lc, (cl.set c (v + d)), some ⟨guA, 0, none⟩, uc, cu, some ⟨gtA, 0, none⟩, tc, ts, some ⟨gsA, 0, none⟩, sc, rs⟩ : Stm)) (show Lns ((⟨cp, cr, some ⟨ggA, 0, none⟩, gc, gs, some ⟨glA, 0, none⟩, lc, (cl.set c (v + d)), some ⟨guA, 0, none⟩, uc, cu, some ⟨gtA, 0, none⟩, tc, ts, some ⟨gsA, 0, none⟩, sc, rs⟩ : Stm) : Stm) ng nl nu nt ns from ⟨hlg, by show (cl.set c (v + d)).length = nl; rw [List.length_set]; exact hll, hlu, hlt, hls⟩) (HM.sdRd 3 rfl (show Lns ((⟨cp, cr, some ⟨ggA, 0, none⟩, gc, gs, some ⟨glA, 0, none⟩, lc, (cl.set c (v + d)), some ⟨guA, 0, none⟩, uc, cu, some ⟨gtA, 0, none⟩, tc, ts, some ⟨gsA, 0, none⟩, sc, rs⟩ : Stm) : Stm) ng nl nu nt ns from ⟨hlg, by show (cl.set c (v + d)).length = nl; rw [List.length_set]; exact hll, hlu, hlt, hls⟩)) hfts id k hk)) fun w76 hbw => (Jp 1∘Jd3∘Jr∘Jg 5 O2∘Jp 1∘Jy (h:=by exact Yl.ix0 gtA k 8 rfl rfl rfl)∘Jy (v := .agg t.cells) (h:=by exact Yl.loadS rfl rfl si_tk rfl (fun _ h => h.qbf qd (i := 6) rfl (ht)))∘JA #[vI 0, vI 0, vI 0, vI 0, vQ 0, .bool false, vQ 0, vW 0]) fun w9 g9 => (JV si_tk O0' (h1:=by exact qbi t)) fun w12_6 => (Jd4∘Jj) fun a I HM => ?_)
 refine qy (fun aS wS => ∃ (g10 : Nat), Fr aS 164 [] [(10, vP g10 0), (9, vP g9 0), (8, vI k), (72, .bool false), (7, vI id), (39, .bool false), (29, .bool false), (16, .bool false), (6, vI 0), (5, vI 0), (4, vP g4 0), (3, vP g3 0), (2, vP g2 0)] ∧ Mem W wS (.blk g10 e.cells 143 :: .blk g9 t.cells 81 :: .blk g4 #[vI 0, vQ 0, vN, vN, vN, vN, vN] 45 :: .blk g3 o.cells 52 :: .blk g2 #[vI cp, vQ cr, vS ggA ng gc, vS glA nl lc, vS guA nu uc, vS gtA nt tc, vS gsA ns sc] 45 :: fG (some ⟨ggA, 0, none⟩) ng gc gs :: fI (some ⟨glA, 0, none⟩) nl lc (cl.set c (v + d)) :: fI (some ⟨guA, 0, none⟩) nu uc cu :: fT (some ⟨gtA, 0, none⟩) nt tc ts :: fS (some ⟨gsA, 0, none⟩) ns sc rs :: (fR rs ++ (T)))) ?_ ?_
 ·
  refine Jb I HM ((Vs .n [14]) fun wd13 => (Vf 0 6∘Vf 2 7∘Vf 4 2∘Vf 7 6∘Vc 1 O0∘Vc 3 O0∘Vc 5 O0∘Vo (vI wt) (by rw [hwt])∘Vc 8 O2∘Vo (vI d) (by rw [hod])) fun a I HM HS => ?_)
  refine qu [6, 13] kr rfl ?_
  refine all_cons ?_ ?_
  ·refine qk I (i := 6) rfl rfl ?_
   refine e_is I HM [vQ t.v, vW t.r, vI wt] (.agg #[vQ t.v, vW t.r, vW wt]) rfl rfl (zo t.v t.r (wt : Int) om _) fun w89 hbw HM a I => ?_
   refine keepS (HM.pt 9 [0, 1, 2, 3, 4, 5, 6, 7, 8]) (fun HS => ?_)
   refine qu [9, 13] kr rfl ?_
   refine all_cons ?_ ?_
   ·refine qk I (i := 9) rfl rfl ?_
    refine e_is I HM [.agg #[vQ t.v, vW t.r, vW wt], vI d] (.tuple #[.agg e.cells, vI 0]) rfl rfl (qew (⟨t.v, t.r, wt⟩ : En) e hEo d hd0 hew _) fun w92 hbw HM a I => ?_
    refine keepS (HM.pt 9 [0, 1, 2, 3, 4, 5, 6, 7, 8]) (fun HS => ?_)
    refine Vb I HM HS ((Vp [10]∘Vx 11∘Vx 12∘VA 13 .n #[vQ 0, vW 0, vW 0]) fun w10 g10 => fun a I HM HS => ?_)
    refine s_on I 14 rfl (e_sa I HM 0 rfl rfl rfl rfl rfl qn rfl rfl (qw e) fun w13_14 HM => ?_)
    refine noS kr ?_
    refine ap I (pastS kr) [15] (bt 16 []) [] fun a I => ?_
    refine qb kr ?_
    exact ⟨g10, I.sub kr, HM.pt 10 [0, 1, 2, 3, 4, 5, 6, 7, 8, 9]⟩
   refine all_cons ?_ all_nil
   refine qk I (i := 13) rfl rfl ?_
   refine s_ea I HM #[vQ 0, vW 0, vW 0] ?_
   clear I HM; intro a w10 g10 I HM
   refine keepS (HM.pt 10 [1, 2, 3, 4, 5, 6, 7, 8, 9]) (fun HS => ?_)
   refine Vb I HM HS ((VI 9 (.f .n) (h:=by exact fun HM => qew (⟨t.v, t.r, wt⟩ : En) e hEo d hd0 hew _)) fun w92 hbw => (Vp [10]∘Vx 11∘Vx 12) fun a I HM HS => ?_)
   refine s_on I 14 rfl (e_sa I HM 0 rfl rfl rfl rfl rfl qn rfl rfl (qw e) fun w13_14 HM => ?_)
   refine noS kr ?_
   refine ap I (pastS kr) [15] (bt 16 []) [] fun a I => ?_
   refine qb kr ?_
   exact ⟨g10, I.sub kr, HM.pt 10 [0, 1, 2, 3, 4, 5, 6, 7, 8, 9]⟩
  refine all_cons ?_ all_nil
  refine qk I (i := 13) rfl rfl ?_
  refine s_ea I HM #[vQ 0, vW 0, vW 0] ?_
  clear I HM; intro a w10 g10 I HM
  refine keepS (HM.pt 10 [1, 2, 3, 4, 5, 6, 7, 8, 9]) (fun HS => ?_)
  refine Vb I HM HS ((VI 6 (.f .n) (h:=by exact fun HM => zo t.v t.r (wt : Int) om _)) fun w89 hbw => (VI 9 (.f .n) (h:=by exact fun HM => qew (⟨t.v, t.r, wt⟩ : En) e hEo d hd0 hew _)) fun w92 hbw => (Vp [10]∘Vx 11∘Vx 12) fun a I HM HS => ?_)
  refine s_on I 14 rfl (e_sa I HM 0 rfl rfl rfl rfl rfl qn rfl rfl (qw e) fun w13_14 HM => ?_)
  refine noS kr ?_
  refine ap I (pastS kr) [15] (bt 16 []) [] fun a I => ?_
  refine qb kr ?_
  exact ⟨g10, I.sub kr, HM.pt 10 [0, 1, 2, 3, 4, 5, 6, 7, 8, 9]⟩
 clear I HM; rintro a w13 ⟨g10, I, HM⟩
 refine wp_seq ?_
 refine Jb I HM ((Vs .n [7]) fun wd14 => (Vf 0 5∘Vp [2]∘Vc 1 O4∘Vy 3 (v := .agg t.cells) (h:=by exact Yl.loadS rfl rfl si_tk rfl (fun _ h => qa (h.blk (i := 1) rfl)))∘Vy 4 (v := .agg e.cells) (h:=by exact Yl.loadS rfl rfl qn rfl (fun _ h => qa (h.blk (i := 0) rfl)))∘VI 5 .n (h:=by exact fun HM => qiu t e heo.1 _)) fun w100 hbw => (Vy 6 (h:=by exact Yl.ix0 gtA k 8 rfl rfl rfl)) fun a I HM HS => ?_)
 refine s_on I 7 rfl ?_
 refine qdg I HM (i := 8) (sz := 8) rfl rfl rfl rfl si_tk rfl (qbi (t.put e)) rfl (by rw [q8 tkL 8 qd]; omega) fun w14_7 HM => ?_
 replace HM := HM.asRow (i := 8) (ys := (ts.set k (t.put e)).flatMap tkL) rfl (qa2 tkL 8 qd ts k (t.put e) om)
 refine noS kr ?_
 refine qb kr ?_
 refine Jb I HM ((JQ∘JP∘Jf 1∘Jc O1∘Jo (vI gt) (by rw [hgt])∘Jp 1∘Jd6∘Jj∘JB) fun a I HM => ?_)
 refine qi (fun mS aS wS => ∃ (g : Nat) (rs2 : List Rw), (g < ns) ∧ (rs2.length = ns) ∧ (SpsOk gs cp rs2) ∧ (qb5 c d g (⟨cp, cr, some ⟨ggA, 0, none⟩, gc, gs, some ⟨glA, 0, none⟩, lc, cl.set c (v + d), some ⟨guA, 0, none⟩, uc, cu, some ⟨gtA, 0, none⟩, tc, ts.set k (t.put e), some ⟨gsA, 0, none⟩, sc, rs2⟩ : Stm).sta = qb5 c d gt (⟨cp, cr, some ⟨ggA, 0, none⟩, gc, gs, some ⟨glA, 0, none⟩, lc, cl.set c (v + d), some ⟨guA, 0, none⟩, uc, cu, some ⟨gtA, 0, none⟩, tc, ts.set k (t.put e), some ⟨gsA, 0, none⟩, sc, rs⟩ : Stm).sta) ∧ mS = 0 + g ∧ Fr aS 164 [] [(12, vI g), (10, vP g10 0), (9, vP g9 0), (8, vI k), (72, .bool false), (7, vI id), (39, .bool false), (29, .bool false), (16, .bool false), (6, vI 0), (5, vI 0), (4, vP g4 0), (3, vP g3 0), (2, vP g2 0)] ∧ Mem W wS (.blk g10 e.cells 143 :: .blk g9 t.cells 81 :: .blk g4 #[vI 0, vQ 0, vN, vN, vN, vN, vN] 45 :: .blk g3 o.cells 52 :: .blk g2 #[vI cp, vQ cr, vS ggA ng gc, vS glA nl lc, vS guA nu uc, vS gtA nt tc, vS gsA ns sc] 45 :: fG (some ⟨ggA, 0, none⟩) ng gc gs :: fI (some ⟨glA, 0, none⟩) nl lc (cl.set c (v + d)) :: fI (some ⟨guA, 0, none⟩) nu uc cu :: fT (some ⟨gtA, 0, none⟩) nt tc (ts.set k (t.put e)) :: fS (some ⟨gsA, 0, none⟩) ns sc rs2 :: (fR rs2 ++ (T)))) (m := 0 + gt) ⟨gt, rs, by omega, hls, hsp, rfl, rfl, I.sub kr, HM.pt 10 [0, 1, 2, 3, 4, 5, 6, 7, 8, 9]⟩ ?_
 clear I HM; rintro mS a w_ ⟨g, rs2, hg, hl2, hsp2, hst2, rfl, I, HM⟩
 refine Jb I HM ((JQ∘JP∘Jp 2∘Jd1∘Jj) (Ju (fun hb105 => ?_) fun hb105 => ?_))
 ·
  intro a I HM
  have hd105 := of_decide_eq_true hb105
  have hg0 : 0 < g := by omega
  obtain ⟨⟨yA, yc, yl⟩, hy⟩ : ∃ y, rs2.getD g Rw.zero = y := ⟨_, rfl⟩
  have hys := hsp2 g om; rw [hy] at hys
  have hyl : (yl.length : Int) = cp := hys.1
  revert HM; revert a; repeat (first | clear I | clear HM)
  intro a I HM
  obtain ⟨gy, rfl⟩ := HM.rwSome 10 rfl om hy om
  obtain ⟨yz, hyz⟩ : ∃ z, yl[c]? = some z := ⟨_, List.getElem?_eq_getElem om⟩
  have hyo := hys.2 yz (List.mem_of_getElem? hyz)
  have hyv := hyo.1.v; have hyr := hyo.1.r; have hyf := hyo.1.floor
  have hpb := zy hgs (g := g) om g hg0 (Nat.le_refl _)
  unfold ParB at hpb
  obtain ⟨p, hpp⟩ : ∃ p : Nat, (gs.getD g Gr.zero).parent = (p : Int) := ⟨(gs.getD g Gr.zero).parent.toNat, by omega⟩
  have hpg : p < g := by omega
  obtain ⟨zw, hzw, hzw1, hzw2⟩ := qbt hgs (g := g) om
  have hFo : (⟨yz.v, yz.r, zw⟩ : En).Ok := En.qda hyo.2 hzw hyo.1.v
  obtain ⟨f, hfw⟩ : ∃ e, (⟨yz.v, yz.r, zw⟩ : En).add d = e := ⟨_, rfl⟩
  have hfo : f.Ok ∧ f.w = zw := by rw [← hfw]; exact En.qhu hFo d
  have hfv := hfo.1.2; have hfr : f.r < 4294967296 := by have := qbu hfo.1.1; omega
  refine Jb I HM ((JT∘JS'∘JQ∘JB) fun a I HM => ?_)
  refine wp_seq ?_
  refine Jb I HM ((Vs .n [10]) fun wd18 => (Vf 0 6∘Vp [2]∘Vf 5 1∘Vc 1 O4∘Vy 3 (h:=by exact Yl.ix0 gsA g 1 rfl rfl rfl)∘Vy 4 (v := .slice ((rs2.getD g Rw.zero).A) ((rs2.getD g Rw.zero).l.length) ((rs2.getD g Rw.zero).c)) (h:=by exact Yl.r1 9 g Rw.zero om rfl rfl rfl)∘Vo (vS gy yl.length yc) (by rw [hy])∘Vc 6 O3∘Vo (vI c) (by rw [hcc])∘Vy 7 (h:=by exact Yl.ix0 gy c 3 rfl rfl rfl)∘Vy 8 (v := .agg yz.cells) (h:=by exact Yl.loadS rfl rfl si_sp rfl (fun _ h => by have h2 := (h.rwRd 10 rfl om hy).q4 qax hyz; rw [Nat.zero_add] at h2; exact h2))∘VA 9 .n #[vQ 0, vW 0, vQ 0]) fun w13 g13 => fun a I HM HS => ?_)
  refine s_on I 10 rfl (e_sa I HM 0 rfl rfl rfl rfl rfl si_sp rfl rfl (qug yz) fun w18_10 HM => ?_)
  refine noS kr ?_
  refine qb kr ?_
  refine qy (fun aS wS => ∃ (g14 : Nat), Fr aS 164 [] [(14, vP g14 0), (13, vP g13 0), (105, .bool true), (12, vI g), (10, vP g10 0), (9, vP g9 0), (8, vI k), (72, .bool false), (7, vI id), (39, .bool false), (29, .bool false), (16, .bool false), (6, vI 0), (5, vI 0), (4, vP g4 0), (3, vP g3 0), (2, vP g2 0)] ∧ Mem W wS (.blk g14 f.cells 143 :: .blk g13 yz.cells 83 :: .blk g10 e.cells 143 :: .blk g9 t.cells 81 :: .blk g4 #[vI 0, vQ 0, vN, vN, vN, vN, vN] 45 :: .blk g3 o.cells 52 :: .blk g2 #[vI cp, vQ cr, vS ggA ng gc, vS glA nl lc, vS guA nu uc, vS gtA nt tc, vS gsA ns sc] 45 :: fG (some ⟨ggA, 0, none⟩) ng gc gs :: fI (some ⟨glA, 0, none⟩) nl lc (cl.set c (v + d)) :: fI (some ⟨guA, 0, none⟩) nu uc cu :: fT (some ⟨gtA, 0, none⟩) nt tc (ts.set k (t.put e)) :: fS (some ⟨gsA, 0, none⟩) ns sc rs2 :: (fR rs2 ++ (T)))) ?_ ?_
  ·
   refine Jb I HM ((Vs .n [19]) fun wd19 => (Vf 0 0∘Vf 2 1∘Vf 4 0∘Vf 5 2∘Vp [7]∘Vf 12 6∘Vc 1 O0∘Vc 3 O0∘Vc 6 O5∘Vy 8 (h:=by exact Yl.ix0 ggA g 2 rfl rfl rfl)∘Vf 9 1∘Vy 10 (v := vI ((gs.getD g Gr.zero).weight)) (h:=by exact Yl.qo rfl rfl kr (fun _ h => h.qq za (i := 6) rfl (k := g) (off := 1) (x := (gs.getD g Gr.zero)) ((getD_at Gr.zero om)) rfl))∘Vo (vI zw) (by rw [hzw])∘Vc 13 O4∘Vo (vI d) (by rw [hod])) fun a I HM HS => ?_)
   refine qu [11, 18] kr rfl ?_
   refine all_cons ?_ ?_
   ·refine qk I (i := 11) rfl rfl ?_
    refine e_is I HM [vQ yz.v, vW yz.r, vI zw] (.agg #[vQ yz.v, vW yz.r, vW zw]) rfl rfl (zo yz.v yz.r (zw : Int) om _) fun w134 hbw HM a I => ?_
    refine keepS (HM.pt 11 [0, 1, 2, 3, 4, 5, 6, 7, 8, 9, 10]) (fun HS => ?_)
    refine qu [14, 18] kr rfl ?_
    refine all_cons ?_ ?_
    ·refine qk I (i := 14) rfl rfl ?_
     refine e_is I HM [.agg #[vQ yz.v, vW yz.r, vW zw], vI d] (.tuple #[.agg f.cells, vI 0]) rfl rfl (qew (⟨yz.v, yz.r, zw⟩ : En) f hFo d hd0 hfw _) fun w137 hbw HM a I => ?_
     refine keepS (HM.pt 11 [0, 1, 2, 3, 4, 5, 6, 7, 8, 9, 10]) (fun HS => ?_)
     refine Vb I HM HS ((Vp [15]∘Vx 16∘Vx 17∘VA 18 .n #[vQ 0, vW 0, vW 0]) fun w14 g14 => fun a I HM HS => ?_)
     refine s_on I 19 rfl (e_sa I HM 0 rfl rfl rfl rfl rfl qn rfl rfl (qw f) fun w19_19 HM => ?_)
     refine noS kr ?_
     refine ap I (pastS kr) [20] (bt 21 []) [] fun a I => ?_
     refine qb kr ?_
     exact ⟨g14, I.sub kr, HM.pt 12 [0, 1, 2, 3, 4, 5, 6, 7, 8, 9, 10, 11]⟩
    refine all_cons ?_ all_nil
    refine qk I (i := 18) rfl rfl ?_
    refine s_ea I HM #[vQ 0, vW 0, vW 0] ?_
    clear I HM; intro a w14 g14 I HM
    refine keepS (HM.pt 12 [1, 2, 3, 4, 5, 6, 7, 8, 9, 10, 11]) (fun HS => ?_)
    refine Vb I HM HS ((VI 14 (.f .n) (h:=by exact fun HM => qew (⟨yz.v, yz.r, zw⟩ : En) f hFo d hd0 hfw _)) fun w137 hbw => (Vp [15]∘Vx 16∘Vx 17) fun a I HM HS => ?_)
    refine s_on I 19 rfl (e_sa I HM 0 rfl rfl rfl rfl rfl qn rfl rfl (qw f) fun w19_19 HM => ?_)
    refine noS kr ?_
    refine ap I (pastS kr) [20] (bt 21 []) [] fun a I => ?_
    refine qb kr ?_
    exact ⟨g14, I.sub kr, HM.pt 12 [0, 1, 2, 3, 4, 5, 6, 7, 8, 9, 10, 11]⟩
   refine all_cons ?_ all_nil
   refine qk I (i := 18) rfl rfl ?_
   refine s_ea I HM #[vQ 0, vW 0, vW 0] ?_
   clear I HM; intro a w14 g14 I HM
   refine keepS (HM.pt 12 [1, 2, 3, 4, 5, 6, 7, 8, 9, 10, 11]) (fun HS => ?_)
   refine Vb I HM HS ((VI 11 (.f .n) (h:=by exact fun HM => zo yz.v yz.r (zw : Int) om _)) fun w134 hbw => (VI 14 (.f .n) (h:=by exact fun HM => qew (⟨yz.v, yz.r, zw⟩ : En) f hFo d hd0 hfw _)) fun w137 hbw => (Vp [15]∘Vx 16∘Vx 17) fun a I HM HS => ?_)
   refine s_on I 19 rfl (e_sa I HM 0 rfl rfl rfl rfl rfl qn rfl rfl (qw f) fun w19_19 HM => ?_)
   refine noS kr ?_
   refine ap I (pastS kr) [20] (bt 21 []) [] fun a I => ?_
   refine qb kr ?_
   exact ⟨g14, I.sub kr, HM.pt 12 [0, 1, 2, 3, 4, 5, 6, 7, 8, 9, 10, 11]⟩
  clear I HM; rintro a w19 ⟨g14, I, HM⟩
  refine qgx HM [.blk g14 f.cells 143, .blk g13 yz.cells 83, .blk g10 e.cells 143, .blk g9 t.cells 81, .blk g4 #[vI 0, vQ 0, vN, vN, vN, vN, vN] 45, .blk g3 o.cells 52, .blk g2 #[vI cp, vQ cr, vS ggA ng gc, vS glA nl lc, vS guA nu uc, vS gtA nt tc, vS gsA ns sc] 45, fG (some ⟨ggA, 0, none⟩) ng gc gs, fI (some ⟨glA, 0, none⟩) nl lc (cl.set c (v + d)), fI (some ⟨guA, 0, none⟩) nu uc cu, fT (some ⟨gtA, 0, none⟩) nt tc (ts.set k (t.put e))] [0, 1, 2, 3, 4, 5, 6, 7, 8, 9, 10] [23] fun HM HS => ?_
  refine ap I (fun _ => HS) [0, 2, 5, 7, 9, 12, 14, 16] (bf 24 [0, 2, 5, 7, 9, 12, 14, 16]) [(156, vP g14 1), (154, vP g14 0), (152, vP g3 1), (149, vI g), (147, vP g2 6), (145, vP g3 1), (142, vI g), (140, vP g2 6)] fun a I => ?_
  refine s_ac I HS 1 6 fun a I => ?_
  refine s_az I HS 3 rfl (v := vP gsA (g * 1)) (Yl.ix0 gsA g 1 rfl rfl rfl) fun a I => ?_
  refine s_ac I HS 6 5 (v := vI o.cpu) fun a I => ?_
  replace I := I.sp 146 (vI c) rfl (by rw [hcc])
  refine s_ac I HS 8 6 fun a I => ?_
  refine s_az I HS 10 rfl (v := vP gsA (g * 1)) (Yl.ix0 gsA g 1 rfl rfl rfl) fun a I => ?_
  refine s_ac I HS 13 5 (v := vI o.cpu) fun a I => ?_
  replace I := I.sp 153 (vI c) rfl (by rw [hcc])
  refine s_ac I HS 15 0 (v := vQ f.v) fun a I => ?_
  refine s_ac I HS 17 0 (v := vW f.r) fun a I => ?_
  refine qu [4, 11] kr rfl ?_
  refine all_cons ?_ ?_
  ·refine qk I (i := 4) rfl rfl ?_
   refine Yl.wp (S := fun wS => Mem W wS _) (v := .slice ((rs2.getD g Rw.zero).A) ((rs2.getD g Rw.zero).l.length) ((rs2.getD g Rw.zero).c)) (Yl.r1 11 g Rw.zero om rfl rfl rfl) I HM rfl de fun a I => ?_
   replace I := I.sp 144 (vS gy yl.length yc) rfl (by rw [hy])
   refine keepS HS (fun HS => ?_)
   refine s_on I 11 rfl ?_
   refine Yl.wp (S := fun wS => Mem W wS _) (v := .slice ((rs2.getD g Rw.zero).A) ((rs2.getD g Rw.zero).l.length) ((rs2.getD g Rw.zero).c)) (Yl.r1 11 g Rw.zero om rfl rfl rfl) I HM rfl de fun a I => ?_
   replace I := I.sp 151 (vS gy yl.length yc) rfl (by rw [hy])
   refine keepS HS (fun HS => ?_)
   refine s_az I HS 18 rfl (v := vP gy (c * 3)) (Yl.ix0 gy c 3 rfl rfl rfl) fun a I => ?_
   refine ap I (fun _ => HS) [19] (bt 24 [20, 21, 22, 23]) [(159, vP gy (c * 3))] fun a I => ?_
   refine s_on I 20 rfl ?_
   refine q6 I HM 11 (c := c) 0 ({ yz with v := f.v }) rfl rfl rfl rfl kr rfl rfl om (hy) (hyz) rfl de rfl fun w20_20 HM => ?_
   replace HM : Mem W w20_20 (.blk g14 f.cells 143 :: .blk g13 yz.cells 83 :: .blk g10 e.cells 143 :: .blk g9 t.cells 81 :: .blk g4 #[vI 0, vQ 0, vN, vN, vN, vN, vN] 45 :: .blk g3 o.cells 52 :: .blk g2 #[vI cp, vQ cr, vS ggA ng gc, vS glA nl lc, vS guA nu uc, vS gtA nt tc, vS gsA ns sc] 45 :: fG (some ⟨ggA, 0, none⟩) ng gc gs :: fI (some ⟨glA, 0, none⟩) nl lc (cl.set c (v + d)) :: fI (some ⟨guA, 0, none⟩) nu uc cu :: fT (some ⟨gtA, 0, none⟩) nt tc (ts.set k (t.put e)) :: fS (some ⟨gsA, 0, none⟩) ns sc (rsPut rs2 g c ({ yz with v := f.v })) :: (fR (rsPut rs2 g c ({ yz with v := f.v })) ++ (T))) := HM
   refine keepS (HM.pk [0, 1, 2, 3, 4, 5, 6, 7, 8, 9, 10]) (fun HS => ?_)
   refine zh I (fun _ => HS) (i := 21) rfl rfl (d := 160) rfl de kr (fun _ _ _ h => h) (v := vP gy (c * 3)) (fun _ => Yl.ix0 gy c 3 rfl rfl rfl) fun a I => ?_
   refine ap I (fun _ => HS) [22] (bt 24 [23]) [(161, vP gy (c * 3 + 1))] fun a I => ?_
   refine s_on I 23 rfl ?_
   refine q6 I HM 11 (c := c) 1 ({ yz with v := f.v, r := f.r }) rfl rfl rfl rfl kr rfl rfl (by first | omega | (rw [qr]; omega)) (qeb om hy) (qba hyz) rfl de rfl fun w20_23 HM => ?_
   replace HM : Mem W w20_23 (.blk g14 f.cells 143 :: .blk g13 yz.cells 83 :: .blk g10 e.cells 143 :: .blk g9 t.cells 81 :: .blk g4 #[vI 0, vQ 0, vN, vN, vN, vN, vN] 45 :: .blk g3 o.cells 52 :: .blk g2 #[vI cp, vQ cr, vS ggA ng gc, vS glA nl lc, vS guA nu uc, vS gtA nt tc, vS gsA ns sc] 45 :: fG (some ⟨ggA, 0, none⟩) ng gc gs :: fI (some ⟨glA, 0, none⟩) nl lc (cl.set c (v + d)) :: fI (some ⟨guA, 0, none⟩) nu uc cu :: fT (some ⟨gtA, 0, none⟩) nt tc (ts.set k (t.put e)) :: fS (some ⟨gsA, 0, none⟩) ns sc (rsPut (rsPut rs2 g c ({ yz with v := f.v })) g c ({ yz with v := f.v, r := f.r })) :: (fR (rsPut (rsPut rs2 g c ({ yz with v := f.v })) g c ({ yz with v := f.v, r := f.r })) ++ (T))) := HM
   rw [qa9 (by first | omega | (rw [qr]; omega))] at HM
   refine noS kr ?_
   refine qb kr ?_
   refine Jb I HM ((JG∘JR∘Jf 0∘Jg 2 O6∘Jp 1∘Jy (h:=by exact Yl.ix0 ggA g 2 rfl rfl rfl)∘Jf 0∘Jy (v := vI ((gs.getD g Gr.zero).parent)) (h:=by exact Yl.qo rfl rfl kr (fun _ h => (by have := h.qq za (i := 7) rfl (k := g) (off := 0) (x := (gs.getD g Gr.zero)) ((getD_at Gr.zero om)) rfl; simpa using this)))∘Jo (vI p) (by rw [hpp])∘Jp 1∘Jd6∘Jq) fun a I HM => ?_)
   exact ⟨_, om, p, (rsPut rs2 g c { yz with v := f.v, r := f.r }), by omega, by rw [qr]; exact hl2, hsp2.put { yz with v := f.v, r := f.r } ⟨hfv, hfr, hyo.1.floor⟩ (by rw [hzw]; have := hfo.1.1; rw [hfo.2] at this; exact this), by rw [← hst2, qcp (c := c) (d := d) (g := g) (p := p) (zy hgs om) hg0 hpp, qdp (x := (⟨cp, cr, some ⟨ggA, 0, none⟩, gc, gs, some ⟨glA, 0, none⟩, lc, (cl.set c (v + d)), some ⟨guA, 0, none⟩, uc, cu, some ⟨gtA, 0, none⟩, tc, (ts.set k (t.put e)), some ⟨gsA, 0, none⟩, sc, rs2⟩ : Stm)) (by show g < rs2.length; omega) hy hyz hzw hfw], rfl, I.sub kr, HM.pt 12 [2, 3, 4, 5, 6, 7, 8, 9, 10, 11]⟩
  refine all_cons ?_ all_nil
  refine qk I (i := 11) rfl rfl ?_
  refine Yl.wp (S := fun wS => Mem W wS _) (v := .slice ((rs2.getD g Rw.zero).A) ((rs2.getD g Rw.zero).l.length) ((rs2.getD g Rw.zero).c)) (Yl.r1 11 g Rw.zero om rfl rfl rfl) I HM rfl de fun a I => ?_
  replace I := I.sp 151 (vS gy yl.length yc) rfl (by rw [hy])
  refine keepS HS (fun HS => ?_)
  refine s_on I 4 rfl ?_
  refine Yl.wp (S := fun wS => Mem W wS _) (v := .slice ((rs2.getD g Rw.zero).A) ((rs2.getD g Rw.zero).l.length) ((rs2.getD g Rw.zero).c)) (Yl.r1 11 g Rw.zero om rfl rfl rfl) I HM rfl de fun a I => ?_
  replace I := I.sp 144 (vS gy yl.length yc) rfl (by rw [hy])
  refine keepS HS (fun HS => ?_)
  refine s_az I HS 18 rfl (v := vP gy (c * 3)) (Yl.ix0 gy c 3 rfl rfl rfl) fun a I => ?_
  refine ap I (fun _ => HS) [19] (bt 24 [20, 21, 22, 23]) [(159, vP gy (c * 3))] fun a I => ?_
  refine s_on I 20 rfl ?_
  refine q6 I HM 11 (c := c) 0 ({ yz with v := f.v }) rfl rfl rfl rfl kr rfl rfl om (hy) (hyz) rfl de rfl fun w20_20 HM => ?_
  replace HM : Mem W w20_20 (.blk g14 f.cells 143 :: .blk g13 yz.cells 83 :: .blk g10 e.cells 143 :: .blk g9 t.cells 81 :: .blk g4 #[vI 0, vQ 0, vN, vN, vN, vN, vN] 45 :: .blk g3 o.cells 52 :: .blk g2 #[vI cp, vQ cr, vS ggA ng gc, vS glA nl lc, vS guA nu uc, vS gtA nt tc, vS gsA ns sc] 45 :: fG (some ⟨ggA, 0, none⟩) ng gc gs :: fI (some ⟨glA, 0, none⟩) nl lc (cl.set c (v + d)) :: fI (some ⟨guA, 0, none⟩) nu uc cu :: fT (some ⟨gtA, 0, none⟩) nt tc (ts.set k (t.put e)) :: fS (some ⟨gsA, 0, none⟩) ns sc (rsPut rs2 g c ({ yz with v := f.v })) :: (fR (rsPut rs2 g c ({ yz with v := f.v })) ++ (T))) := HM
  refine keepS (HM.pk [0, 1, 2, 3, 4, 5, 6, 7, 8, 9, 10]) (fun HS => ?_)
  refine zh I (fun _ => HS) (i := 21) rfl rfl (d := 160) rfl de kr (fun _ _ _ h => h) (v := vP gy (c * 3)) (fun _ => Yl.ix0 gy c 3 rfl rfl rfl) fun a I => ?_
  refine ap I (fun _ => HS) [22] (bt 24 [23]) [(161, vP gy (c * 3 + 1))] fun a I => ?_
  refine s_on I 23 rfl ?_
  refine q6 I HM 11 (c := c) 1 ({ yz with v := f.v, r := f.r }) rfl rfl rfl rfl kr rfl rfl (by first | omega | (rw [qr]; omega)) (qeb om hy) (qba hyz) rfl de rfl fun w20_23 HM => ?_
  replace HM : Mem W w20_23 (.blk g14 f.cells 143 :: .blk g13 yz.cells 83 :: .blk g10 e.cells 143 :: .blk g9 t.cells 81 :: .blk g4 #[vI 0, vQ 0, vN, vN, vN, vN, vN] 45 :: .blk g3 o.cells 52 :: .blk g2 #[vI cp, vQ cr, vS ggA ng gc, vS glA nl lc, vS guA nu uc, vS gtA nt tc, vS gsA ns sc] 45 :: fG (some ⟨ggA, 0, none⟩) ng gc gs :: fI (some ⟨glA, 0, none⟩) nl lc (cl.set c (v + d)) :: fI (some ⟨guA, 0, none⟩) nu uc cu :: fT (some ⟨gtA, 0, none⟩) nt tc (ts.set k (t.put e)) :: fS (some ⟨gsA, 0, none⟩) ns sc (rsPut (rsPut rs2 g c ({ yz with v := f.v })) g c ({ yz with v := f.v, r := f.r })) :: (fR (rsPut (rsPut rs2 g c ({ yz with v := f.v })) g c ({ yz with v := f.v, r := f.r })) ++ (T))) := HM
  rw [qa9 (by first | omega | (rw [qr]; omega))] at HM
  refine noS kr ?_
  refine qb kr ?_
  refine Jb I HM ((JG∘JR∘Jf 0∘Jg 2 O6∘Jp 1∘Jy (h:=by exact Yl.ix0 ggA g 2 rfl rfl rfl)∘Jf 0∘Jy (v := vI ((gs.getD g Gr.zero).parent)) (h:=by exact Yl.qo rfl rfl kr (fun _ h => (by have := h.qq za (i := 7) rfl (k := g) (off := 0) (x := (gs.getD g Gr.zero)) ((getD_at Gr.zero om)) rfl; simpa using this)))∘Jo (vI p) (by rw [hpp])∘Jp 1∘Jd6∘Jq) fun a I HM => ?_)
  exact ⟨_, om, p, (rsPut rs2 g c { yz with v := f.v, r := f.r }), by omega, by rw [qr]; exact hl2, hsp2.put { yz with v := f.v, r := f.r } ⟨hfv, hfr, hyo.1.floor⟩ (by rw [hzw]; have := hfo.1.1; rw [hfo.2] at this; exact this), by rw [← hst2, qcp (c := c) (d := d) (g := g) (p := p) (zy hgs om) hg0 hpp, qdp (x := (⟨cp, cr, some ⟨ggA, 0, none⟩, gc, gs, some ⟨glA, 0, none⟩, lc, (cl.set c (v + d)), some ⟨guA, 0, none⟩, uc, cu, some ⟨gtA, 0, none⟩, tc, (ts.set k (t.put e)), some ⟨gsA, 0, none⟩, sc, rs2⟩ : Stm)) (by show g < rs2.length; omega) hy hyz hzw hfw], rfl, I.sub kr, HM.pt 12 [2, 3, 4, 5, 6, 7, 8, 9, 10, 11]⟩
 intro a I HM
 have hd105 := of_decide_eq_false hb105
 refine Jb I HM ((JF∘JX∘JG∘JP∘Jy (v := .agg #[vI cp, vQ cr, vS ggA ng gc, vS glA nl lc, vS guA nu uc, vS gtA nt tc, vS gsA ns sc]) (h:=by exact Yl.loadS rfl rfl si_st rfl (fun _ h => qa (h.blk (i := 4) rfl)))∘Jp 1∘JV si_st O2') fun w21_2 => (Jp 2∘Jj∘JZ) fun a I HM => ?_)
 exact ret3 rfl I (.cellS (i := 2) I HM rfl rfl si_st rfl) (.tmp I rfl) (.tmp I rfl) (qj (y := (⟨cp, cr, some ⟨ggA, 0, none⟩, gc, gs, some ⟨glA, 0, none⟩, lc, (cl.set c (v + d)), some ⟨guA, 0, none⟩, uc, cu, some ⟨gtA, 0, none⟩, tc, (ts.set k (t.put e)), some ⟨gsA, 0, none⟩, sc, rs2⟩ : Stm)) 5 HM rfl ⟨hlg, by show (cl.set _ _).length = nl; rw [List.length_set]; exact hll, hlu, by show (ts.set _ _).length = nt; rw [List.length_set]; exact hlt, hl2⟩ ((qmb (x := (⟨cp, cr, some ⟨ggA, 0, none⟩, gc, gs, some ⟨glA, 0, none⟩, lc, cl, some ⟨guA, 0, none⟩, uc, cu, some ⟨gtA, 0, none⟩, tc, ts, some ⟨gsA, 0, none⟩, sc, rs⟩ : Stm)) (decide_eq_true (by show 0 ≤ o.cpu ∧ o.cpu < cp; omega)) htk hcc hod hv om hid hid0 hk ht hgt hwt hew).trans (by rw [← show qb5 c d g (⟨cp, cr, some ⟨ggA, 0, none⟩, gc, gs, some ⟨glA, 0, none⟩, lc, cl.set c (v + d), some ⟨guA, 0, none⟩, uc, cu, some ⟨gtA, 0, none⟩, tc, ts.set k (t.put e), some ⟨gsA, 0, none⟩, sc, rs2⟩ : Stm).sta = _ from hst2, show g = 0 by omega]; rfl)))
theorem qt4 {l : List Tk} {id : Int} {n : Nat} (hn : n ≤ l.length) (hu : ∀ j, j < l.length → (l.getD j Tk.zero).id ≠ id) (h : ¬ (n < l.length ∧ (l.getD n Tk.zero).id < id)) : n = l.length ∨ id < (l.getD n Tk.zero).id := by
 rcases Nat.lt_or_ge n l.length with h1 | h1
 ·have := hu n h1
  exact .inr om
 ·exact .inl om
theorem qwd {s : Sta} (hG : GoodS s) {t : Tk} (ht : t ∈ s.ts) {c : Nat} (hc : t.cpu = (c : Int)) : t.id ∈ s.cu ↔ s.cu.getD c 0 = t.id := by
 have hid := (hG.sh.tasks t ht).id
 constructor
 ·intro h
  obtain ⟨d, hd, he⟩ := zx 0 h
  rcases hG.cur d hd with h0 | ⟨u, hu, h1, h2, h3⟩
  ·omega
  ·obtain rfl := qp8 hG.sh.sort hu ht om
   rw [show c = d by omega]
   exact he
 ·intro h
  have hcp := (hG.sh.tasks t ht).cpu
  have hcu := hG.sh.cu
  rw [← h]
  exact qm 0 om
section
variable {x : Stm} {o : Op30} {t : Tk} {be fr mo lc : Int} {c ct bb : Nat}
theorem qwe (hcc : o.cpu = (c : Int)) (hbz : busyF x.sta o.cpu x.cpus.toNat = (fr, mo)) (hlc : loadS x.sta c = lc) (hct : t.cpu = (ct : Int)) : mayB x.sta o t = decide (t.ready = true ∧ t.cpu = fr ∧ (t.mask / 2 ^ c) % 2 = 1 ∧ x.cu.getD ct 0 ≠ t.id ∧ 2 * t.weight ≤ mo - lc) := by
 unfold mayB bitOn
 rw [show x.sta.cpus = x.cpus from rfl, hbz, hcc, Int.toNat_natCast, hlc, show x.sta.cu = x.cu from rfl, hct, Int.toNat_natCast]
 simp
theorem qt5 {w y fr : Int} {a : Prop} {q : Nat} {z : Prop} (h1 : t.ready = true) (h2 : t.cpu = fr) (h3 : q = 1) (h4 : ¬ z) (h5 : a ↔ ¬ (w ≤ y)) : a ↔ ¬ (t.ready = true ∧ t.cpu = fr ∧ q = 1 ∧ ¬ z ∧ w ≤ y) := by
 rw [h5]
 exact ⟨fun h k => h k.2.2.2.2, fun h k => h ⟨h1, h2, h3, h4, k⟩⟩
theorem qr6 (hbb : be.toNat = bb) (h1 : mayB x.sta o t = true) (h2 : be < 0 ∨ (x.ts.getD bb Tk.zero).weight < t.weight) : qbb x.sta o be t = true := by
 unfold qbb
 rw [h1, hbb, Bool.true_and, Bool.or_eq_true, decide_eq_true_eq, decide_eq_true_eq]
 exact h2
theorem qr7 (hbb : be.toNat = bb) (h2 : ¬ (be < 0 ∨ (x.ts.getD bb Tk.zero).weight < t.weight)) : ¬ qbb x.sta o be t = true := by
 unfold qbb
 rw [hbb, Bool.and_eq_true, Bool.or_eq_true, decide_eq_true_eq, decide_eq_true_eq]
 exact fun h => h2 h.2
theorem qr8 (h1 : mayB x.sta o t = false) : ¬ qbb x.sta o be t = true := by
 unfold qbb
 rw [h1]
 simp
end
theorem qos (W w : World) (x : Stm) (ng nl nu nt ns : Nat) (hx : MdOk x ng nl nu nt ns) (T : List Fact) (HM : Mem W w (sdA x ng nl nu nt ns ++ T)) (o : Op30) (ho : o.Ok) :
    Calls Tryz.prog 70 #[.agg (sdC x ng nl nu nt ns), .agg o.cells] w (OpOut W T (qb9 x.sta o)) := by
 obtain ⟨cp, cr, gA, gc, gs, lA, lc, cl, uA, uc, cu, tA, tc, ts, sA, sc, rs⟩ := x
 replace HM : Mem W w (fG gA ng gc gs :: fI lA nl lc cl :: fI uA nu uc cu :: fT tA nt tc ts :: fS sA ns sc rs :: (fR rs ++ (T))) := HM
 have hln := hx.ln
 obtain ⟨hlg, hll, hlu, hlt, hls⟩ := hln
 replace hlg : gs.length = ng := hlg; replace hll : cl.length = nl := hll; replace hlu : cu.length = nu := hlu; replace hlt : ts.length = nt := hlt; replace hls : rs.length = ns := hls
 have hlns := hx.ln
 have hsp : SpsOk gs cp rs := hx.spots
 have hrg : rs.length = gs.length := hx.sh.rs
 have hcr : cr < 18446744073709551616 := hx.ok.credit
 obtain ⟨hcp1, hcp2, _, hgs⟩ := zf hx.sh.cfg
 replace hcp1 : 1 ≤ cp := hcp1; replace hcp2 : cp ≤ 64 := hcp2; replace hgs : gsOk gs = true := hgs
 have hgl1 := (qh hgs).1; have hgl2 := (qh hgs).2.1
 have hcll : (cl.length : Int) = cp := hx.sh.cl; have hcul : (cu.length : Int) = cp := hx.sh.cu
 have hfts : ts.length ≤ 1000000 := hx.few.t
 have hoc := ho.cpu; have hot := ho.task; have hog := ho.group; have how := ho.weight; have hoto := ho.to; have hotk := ho.ticks; have hom := ho.mask; have hok8 := ho.kind; unfold I64 at hoc hot hog how hoto hotk
 have hsx := qqa hx
 obtain ⟨cn, hcn⟩ : ∃ n : Nat, cp = (n : Int) := ⟨cp.toNat, by omega⟩
 obtain ⟨gsA, rfl⟩ := qe (HM.own (i := 4) rfl) om
 show Calls Tryz.prog 70 #[.agg #[vI cp, vQ cr, .slice gA ng gc, .slice lA nl lc, .slice uA nu uc, .slice tA nt tc, vS gsA ns sc], .agg o.cells] w _
 refine (Jin2 HM Tryz.func70 146) ?_
 refine (JP∘JE) fun w2 g2 => (JE) fun w3 g3 => (JA #[vI 0, vQ 0, vN, vN, vN, vN, vN]) fun w4 g4 => (Jp 2∘Jj∘JQ∘JB∘JP∘Jg 1 O1∘Jp 2) (Ji (fun hd14 => ?_) fun hd14 => ?_)
 ·
  refine (Jv 8 [(10, .bool true)]∘Jd3∘Jj∘JT∘JP∘Jy (v := .agg #[vI cp, vQ cr, .slice gA ng gc, .slice lA nl lc, .slice uA nu uc, .slice tA nt tc, vS gsA ns sc]) (h:=by exact Yl.loadS rfl rfl si_st rfl (fun _ h => qa (h.blk (i := 2) rfl)))∘JV si_st O0') fun w2_1 => (Jp 2∘Jj∘JZ) fun a I HM => ?_
  exact ret3 rfl I (.cellS (i := 0) I HM rfl rfl si_st rfl) (.tmp I rfl) (.tmp I rfl) (qj (y := (⟨cp, cr, gA, gc, gs, lA, lc, cl, uA, uc, cu, tA, tc, ts, some ⟨gsA, 0, none⟩, sc, rs⟩ : Stm)) 3 HM rfl hlns (if_pos (decide_eq_false (by show ¬ (0 ≤ o.cpu ∧ o.cpu < cp); omega))))
 refine (Jg 1 O1∘Jf 0∘Jg 0 O2∘Jp 3∘Jd6∘Jj) (Ju (fun hb10 => ?_) fun hb10 => ?_)
 ·
  intro a I HM
  have hd10 := of_decide_eq_true hb10
  refine Jb I HM ((JT∘JP∘Jy (v := .agg #[vI cp, vQ cr, .slice gA ng gc, .slice lA nl lc, .slice uA nu uc, .slice tA nt tc, vS gsA ns sc]) (h:=by exact Yl.loadS rfl rfl si_st rfl (fun _ h => qa (h.blk (i := 2) rfl)))∘JV si_st O0') fun w2_1 => (Jp 2∘Jj∘JZ) fun a I HM => ?_)
  exact ret3 rfl I (.cellS (i := 0) I HM rfl rfl si_st rfl) (.tmp I rfl) (.tmp I rfl) (qj (y := (⟨cp, cr, gA, gc, gs, lA, lc, cl, uA, uc, cu, tA, tc, ts, some ⟨gsA, 0, none⟩, sc, rs⟩ : Stm)) 3 HM rfl hlns (if_pos (decide_eq_false (by show ¬ (0 ≤ o.cpu ∧ o.cpu < cp); omega))))
 intro a I HM
 have hd10 := of_decide_eq_false hb10
 obtain ⟨c, hcc⟩ : ∃ n : Nat, o.cpu = (n : Int) := ⟨o.cpu.toNat, by omega⟩
 have hccp : ((c : Nat) : Int) < cp := by omega
 refine Jb I HM ((JF∘JP∘Jg 2 O1∘Jp 2) (Ji (fun hd27 => ?_) fun hd27 => ?_))
 ·
  refine (Jp 5∘Jd6∘Jj∘JT∘JP∘Jy (v := .agg #[vI cp, vQ cr, .slice gA ng gc, .slice lA nl lc, .slice uA nu uc, .slice tA nt tc, vS gsA ns sc]) (h:=by exact Yl.loadS rfl rfl si_st rfl (fun _ h => qa (h.blk (i := 2) rfl)))∘JV si_st O0') fun w4_1 => (Jp 2∘Jj∘JZ) fun a I HM => ?_
  exact ret3 rfl I (.cellS (i := 0) I HM rfl rfl si_st rfl) (.tmp I rfl) (.tmp I rfl) (qj (y := (⟨cp, cr, gA, gc, gs, lA, lc, cl, uA, uc, cu, tA, tc, ts, some ⟨gsA, 0, none⟩, sc, rs⟩ : Stm)) 3 HM rfl hlns ((if_neg (nf (decide_eq_true (by show 0 ≤ o.cpu ∧ o.cpu < cp; omega)))).trans (if_pos (decide_eq_false (by show ¬ (1 ≤ o.task ∧ o.task ≤ 65535); omega)))))
 refine (Jg 2 O1∘Jp 3∘Jd6∘Jj) (Ji (fun hd23 => ?_) fun hd23 => ?_)
 ·
  refine (JT∘JP∘Jy (v := .agg #[vI cp, vQ cr, .slice gA ng gc, .slice lA nl lc, .slice uA nu uc, .slice tA nt tc, vS gsA ns sc]) (h:=by exact Yl.loadS rfl rfl si_st rfl (fun _ h => qa (h.blk (i := 2) rfl)))∘JV si_st O0') fun w4_1 => (Jp 2∘Jj∘JZ) fun a I HM => ?_
  exact ret3 rfl I (.cellS (i := 0) I HM rfl rfl si_st rfl) (.tmp I rfl) (.tmp I rfl) (qj (y := (⟨cp, cr, gA, gc, gs, lA, lc, cl, uA, uc, cu, tA, tc, ts, some ⟨gsA, 0, none⟩, sc, rs⟩ : Stm)) 3 HM rfl hlns ((if_neg (nf (decide_eq_true (by show 0 ≤ o.cpu ∧ o.cpu < cp; omega)))).trans (if_pos (decide_eq_false (by show ¬ (1 ≤ o.task ∧ o.task ≤ 65535); omega)))))
 refine (JF∘JP∘Jg 3 O1∘Jp 2) (Ji (fun hd37 => ?_) fun hd37 => ?_)
 ·
  refine (Jv 9 [(33, .bool true)]∘Jd3∘Jj∘JT∘JP∘Jy (v := .agg #[vI cp, vQ cr, .slice gA ng gc, .slice lA nl lc, .slice uA nu uc, .slice tA nt tc, vS gsA ns sc]) (h:=by exact Yl.loadS rfl rfl si_st rfl (fun _ h => qa (h.blk (i := 2) rfl)))∘JV si_st O0') fun w6_1 => (Jp 2∘Jj∘JZ) fun a I HM => ?_
  exact ret3 rfl I (.cellS (i := 0) I HM rfl rfl si_st rfl) (.tmp I rfl) (.tmp I rfl) (qj (y := (⟨cp, cr, gA, gc, gs, lA, lc, cl, uA, uc, cu, tA, tc, ts, some ⟨gsA, 0, none⟩, sc, rs⟩ : Stm)) 3 HM rfl hlns ((if_neg (nf (decide_eq_true (by show 0 ≤ o.cpu ∧ o.cpu < cp; omega)))).trans ((if_neg (nf (decide_eq_true (by show 1 ≤ o.task ∧ o.task ≤ 65535; omega)))).trans (if_pos (by show ¬ (0 ≤ o.group ∧ o.group < ((rs.map Rw.l).length : Nat)); rw [List.length_map]; omega)))))
 refine (Jg 3 O1∘Jf 0∘Jg 2 O2∘Jl∘Jp 3∘Jd6∘Jj) (Ju (fun hb33 => ?_) fun hb33 => ?_)
 ·
  intro a I HM
  have hd33 := of_decide_eq_true hb33
  refine Jb I HM ((JT∘JP∘Jy (v := .agg #[vI cp, vQ cr, .slice gA ng gc, .slice lA nl lc, .slice uA nu uc, .slice tA nt tc, vS gsA ns sc]) (h:=by exact Yl.loadS rfl rfl si_st rfl (fun _ h => qa (h.blk (i := 2) rfl)))∘JV si_st O0') fun w6_1 => (Jp 2∘Jj∘JZ) fun a I HM => ?_)
  exact ret3 rfl I (.cellS (i := 0) I HM rfl rfl si_st rfl) (.tmp I rfl) (.tmp I rfl) (qj (y := (⟨cp, cr, gA, gc, gs, lA, lc, cl, uA, uc, cu, tA, tc, ts, some ⟨gsA, 0, none⟩, sc, rs⟩ : Stm)) 3 HM rfl hlns ((if_neg (nf (decide_eq_true (by show 0 ≤ o.cpu ∧ o.cpu < cp; omega)))).trans ((if_neg (nf (decide_eq_true (by show 1 ≤ o.task ∧ o.task ≤ 65535; omega)))).trans (if_pos (by show ¬ (0 ≤ o.group ∧ o.group < ((rs.map Rw.l).length : Nat)); rw [List.length_map]; omega)))))
 intro a I HM
 have hd33 := of_decide_eq_false hb33
 obtain ⟨g, hgg⟩ : ∃ n : Nat, o.group = (n : Int) := ⟨o.group.toNat, by omega⟩
 refine Jb I HM ((JF∘JP∘Jg 4 O1∘JL (h:=by exact fun HM => qb1 o.weight _)) ?_)
 rintro HM _ w50 ⟨rfl, hbw⟩
 refine ⟨_, rfl, _, HM.call hbw, ?_⟩
 refine (Jp 2) (Ji' (fun hd52 => ?_) fun hd52 => ?_)
 ·
  refine (Jv 13 [(47, .bool true)]∘Jd4∘Jj∘JT∘JP∘Jy (v := .agg #[vI cp, vQ cr, .slice gA ng gc, .slice lA nl lc, .slice uA nu uc, .slice tA nt tc, vS gsA ns sc]) (h:=by exact Yl.loadS rfl rfl si_st rfl (fun _ h => qa (h.blk (i := 2) rfl)))∘JV si_st O0') fun w8_1 => (Jp 2∘Jj∘JZ) fun a I HM => ?_
  exact ret3 rfl I (.cellS (i := 0) I HM rfl rfl si_st rfl) (.tmp I rfl) (.tmp I rfl) (qj (y := (⟨cp, cr, gA, gc, gs, lA, lc, cl, uA, uc, cu, tA, tc, ts, some ⟨gsA, 0, none⟩, sc, rs⟩ : Stm)) 3 HM rfl hlns ((if_neg (nf (decide_eq_true (by show 0 ≤ o.cpu ∧ o.cpu < cp; omega)))).trans ((if_neg (nf (decide_eq_true (by show 1 ≤ o.task ∧ o.task ≤ 65535; omega)))).trans ((if_neg (by show ¬ ¬ (0 ≤ o.group ∧ o.group < ((rs.map Rw.l).length : Nat)); rw [List.length_map]; omega)).trans (if_pos (qfj hcn (fun h => hd52 ⟨h.1, h.2.1⟩)))))))
 refine (Jg 7 O1∘Jp 3) (Je (fun hd57 => ?_) fun hd57 => ?_)
 ·
  refine (Jv 8 [(47, .bool true)]∘Jd6∘Jj∘JT∘JP∘Jy (v := .agg #[vI cp, vQ cr, .slice gA ng gc, .slice lA nl lc, .slice uA nu uc, .slice tA nt tc, vS gsA ns sc]) (h:=by exact Yl.loadS rfl rfl si_st rfl (fun _ h => qa (h.blk (i := 2) rfl)))∘JV si_st O0') fun w8_1 => (Jp 2∘Jj∘JZ) fun a I HM => ?_
  exact ret3 rfl I (.cellS (i := 0) I HM rfl rfl si_st rfl) (.tmp I rfl) (.tmp I rfl) (qj (y := (⟨cp, cr, gA, gc, gs, lA, lc, cl, uA, uc, cu, tA, tc, ts, some ⟨gsA, 0, none⟩, sc, rs⟩ : Stm)) 3 HM rfl hlns ((if_neg (nf (decide_eq_true (by show 0 ≤ o.cpu ∧ o.cpu < cp; omega)))).trans ((if_neg (nf (decide_eq_true (by show 1 ≤ o.task ∧ o.task ≤ 65535; omega)))).trans ((if_neg (by show ¬ ¬ (0 ≤ o.group ∧ o.group < ((rs.map Rw.l).length : Nat)); rw [List.length_map]; omega)).trans (if_pos (qfj hcn (fun h => h.2.2.1 om)))))))
 refine (Jg 7 O1∘Jf 0∘Jf 0∘Jc O2∘Jo (vI cn) (by rw [hcn])∘JI (h:=by exact fun HM => qrv o.mask cn hom om _)) fun w63 hbw => (Jp 2∘Jd6∘Jj) (Ju (fun hb47 => ?_) fun hb47 => ?_)
 ·
  intro a I HM
  have hd47 := of_decide_eq_true hb47
  refine Jb I HM ((JT∘JP∘Jy (v := .agg #[vI cp, vQ cr, .slice gA ng gc, .slice lA nl lc, .slice uA nu uc, .slice tA nt tc, vS gsA ns sc]) (h:=by exact Yl.loadS rfl rfl si_st rfl (fun _ h => qa (h.blk (i := 2) rfl)))∘JV si_st O0') fun w8_1 => (Jp 2∘Jj∘JZ) fun a I HM => ?_)
  exact ret3 rfl I (.cellS (i := 0) I HM rfl rfl si_st rfl) (.tmp I rfl) (.tmp I rfl) (qj (y := (⟨cp, cr, gA, gc, gs, lA, lc, cl, uA, uc, cu, tA, tc, ts, some ⟨gsA, 0, none⟩, sc, rs⟩ : Stm)) 3 HM rfl hlns ((if_neg (nf (decide_eq_true (by show 0 ≤ o.cpu ∧ o.cpu < cp; omega)))).trans ((if_neg (nf (decide_eq_true (by show 1 ≤ o.task ∧ o.task ≤ 65535; omega)))).trans ((if_neg (by show ¬ ¬ (0 ≤ o.group ∧ o.group < ((rs.map Rw.l).length : Nat)); rw [List.length_map]; omega)).trans (if_pos (qfj hcn (fun h => h.2.2.2 hd47)))))))
 intro a I HM
 have hd47 := of_decide_eq_false hb47
 have hmb := Nat.div_le_self o.mask (2 ^ c)
 refine Jb I HM ((JF∘JP∘Jy (v := .agg #[vI cp, vQ cr, .slice gA ng gc, .slice lA nl lc, .slice uA nu uc, .slice tA nt tc, vS gsA ns sc]) (h:=by exact Yl.loadS rfl rfl si_st rfl (fun _ h => qa (h.blk (i := 2) rfl)))∘Jg 2 O1∘JI (h:=by exact fun HM => qeg (x := (⟨cp, cr, gA, gc, gs, lA, lc, cl, uA, uc, cu, tA, tc, ts, some ⟨gsA, 0, none⟩, sc, rs⟩ : Stm)) hlns (HM.sdRd 3 rfl hlns) hfts o.task)) fun w70 hbw => (Jp 2∘Jd4∘Jj) (Ju (fun hb66 => ?_) fun hb66 => ?_))
 ·
  intro a I HM
  have hd66 := of_decide_eq_true hb66
  refine Jb I HM ((JT∘JP∘Jy (v := .agg #[vI cp, vQ cr, .slice gA ng gc, .slice lA nl lc, .slice uA nu uc, .slice tA nt tc, vS gsA ns sc]) (h:=by exact Yl.loadS rfl rfl si_st rfl (fun _ h => qa (h.blk (i := 2) rfl)))∘JV si_st O0') fun w10_1 => (Jp 2∘Jj∘JZ) fun a I HM => ?_)
  exact ret3 rfl I (.cellS (i := 0) I HM rfl rfl si_st rfl) (.tmp I rfl) (.tmp I rfl) (qj (y := (⟨cp, cr, gA, gc, gs, lA, lc, cl, uA, uc, cu, tA, tc, ts, some ⟨gsA, 0, none⟩, sc, rs⟩ : Stm)) 3 HM rfl hlns ((if_neg (nf (decide_eq_true (by show 0 ≤ o.cpu ∧ o.cpu < cp; omega)))).trans ((if_neg (nf (decide_eq_true (by show 1 ≤ o.task ∧ o.task ≤ 65535; omega)))).trans ((if_neg (by show ¬ ¬ (0 ≤ o.group ∧ o.group < ((rs.map Rw.l).length : Nat)); rw [List.length_map]; omega)).trans ((if_neg ((qdq hcn ⟨hd52.1, hd52.2, by omega, hd47⟩))).trans (if_pos (by show 0 ≤ fidx ts o.task; omega)))))))
 intro a I HM
 have hd66 := of_decide_eq_false hb66
 replace hd66 : ¬ (fidx ts o.task ≥ 0) := hd66
 have hu0 : ∀ j, j < ts.length → (ts.getD j Tk.zero).id ≠ o.task := fun j hj => qj1 (l := ts) om _ (qm Tk.zero hj)
 refine Jb I HM ((JF∘JP∘Jg 7 O1∘Jf 1∘Jc O1∘Jo (vI c) (by rw [hcc])∘Jy (v := vQ (o.mask / 2 ^ c : Nat)) (h:=by exact Yl.shrN (m := o.mask) (n := c) rfl rfl rfl (by show _ ≤ 64; omega))∘Jp 1∘Jo (vQ ((o.mask / 2 ^ c) % 2 : Nat)) (by exact zn .u64 _ 2)∘Jp 2∘Jd6∘Jj) (Ju (fun hb73 => ?_) fun hb73 => ?_))
 ·
  intro a I HM
  have hd73 := eq_of_beq hb73
  refine Jb I HM ((JT∘JP∘Jy (v := .agg #[vI cp, vQ cr, .slice gA ng gc, .slice lA nl lc, .slice uA nu uc, .slice tA nt tc, vS gsA ns sc]) (h:=by exact Yl.loadS rfl rfl si_st rfl (fun _ h => qa (h.blk (i := 2) rfl)))∘JV si_st O0') fun w12_1 => (Jp 2∘Jj∘JZ) fun a I HM => ?_)
  exact ret3 rfl I (.cellS (i := 0) I HM rfl rfl si_st rfl) (.tmp I rfl) (.tmp I rfl) (qj (y := (⟨cp, cr, gA, gc, gs, lA, lc, cl, uA, uc, cu, tA, tc, ts, some ⟨gsA, 0, none⟩, sc, rs⟩ : Stm)) 3 HM rfl hlns ((if_neg (nf (decide_eq_true (by show 0 ≤ o.cpu ∧ o.cpu < cp; omega)))).trans ((if_neg (nf (decide_eq_true (by show 1 ≤ o.task ∧ o.task ≤ 65535; omega)))).trans ((if_neg (by show ¬ ¬ (0 ≤ o.group ∧ o.group < ((rs.map Rw.l).length : Nat)); rw [List.length_map]; omega)).trans ((if_neg ((qdq hcn ⟨hd52.1, hd52.2, by omega, hd47⟩))).trans ((if_neg (by show ¬ 0 ≤ fidx ts o.task; omega)).trans (if_pos (qml rfl hcc om))))))))
 intro a I HM
 have hd73 := ne_of_beq_false hb73
 obtain ⟨⟨yA, yc, yl⟩, hy⟩ : ∃ y, rs.getD g Rw.zero = y := ⟨_, rfl⟩
 have hys := hsp g om; rw [hy] at hys
 have hyl : (yl.length : Int) = cp := hys.1
 revert HM; revert a; repeat (first | clear I | clear HM)
 intro a I HM
 obtain ⟨gy, rfl⟩ := HM.rwSome 8 rfl om hy om
 obtain ⟨yz, hyz⟩ : ∃ z, yl[c]? = some z := ⟨_, List.getElem?_eq_getElem om⟩
 have hyo := hys.2 yz (List.mem_of_getElem? hyz)
 have hyv := hyo.1.v; have hyr := hyo.1.r; have hyf := hyo.1.floor
 obtain ⟨tn, htn⟩ : ∃ z : Tk, (⟨o.task, o.group, o.weight, o.cpu, o.mask, true, yz.floor, 0⟩ : Tk) = z := ⟨_, rfl⟩
 have hti : tn.id = o.task := by rw [← htn]
 have htg2 : tn.group = (g : Int) := by rw [← htn]; exact hgg
 have htc2 : tn.cpu = (c : Int) := by rw [← htn]; exact hcc
 have hsy := qag (x := (⟨cp, cr, gA, gc, gs, lA, lc, cl, uA, uc, cu, tA, tc, ts, some ⟨gsA, 0, none⟩, sc, rs⟩ : Stm)) (by show g < rs.length; omega) hy hyz
 have htcap : nt ≤ tc := quw (HM.own (i := 6) rfl)
 refine Jb I HM ((JF∘JS'∘JP∘Jy (v := .agg #[vI cp, vQ cr, .slice gA ng gc, .slice lA nl lc, .slice uA nu uc, .slice tA nt tc, vS gsA ns sc]) (h:=by exact Yl.loadS rfl rfl si_st rfl (fun _ h => qa (h.blk (i := 2) rfl)))∘JL (h:=by exact fun HM => qev (x := (⟨cp, cr, gA, gc, gs, lA, lc, cl, uA, uc, cu, tA, tc, ts, some ⟨gsA, 0, none⟩, sc, rs⟩ : Stm)) hlns (HM.sdRd 3 rfl hlns) (hx.few))) ?_)
 rintro HM _ w83 ⟨y, rfl, heq, hcap, hm⟩
 refine ⟨_, rfl, _, (show Mem W _ (.blk g4 #[vI 0, vQ 0, vN, vN, vN, vN, vN] 45 :: .blk g3 o.cells 52 :: .blk g2 #[vI cp, vQ cr, .slice gA ng gc, .slice lA nl lc, .slice uA nu uc, .slice tA nt tc, vS gsA ns sc] 45 :: fG gA ng gc gs :: fI lA nl lc cl :: fI uA nu uc cu :: fT tA nt tc ts :: fS (some ⟨gsA, 0, none⟩) ns sc rs :: (fR rs ++ (stF y ++ (T)))) from HM.joinG (A := fR rs) (T := (T)) 8 hm rfl), ?_⟩
 refine (JA #[vI 0, vQ 0, vN, vN, vN, vN, vN]) fun w7 g7 => (JV si_st O0' (h1:=by exact qz y)) fun w13_3 => (Jd2∘Jq) fun a I HM => ?_
 have hyS : y.sta = (⟨cp, cr, gA, gc, gs, lA, lc, cl, uA, uc, cu, tA, tc, ts, some ⟨gsA, 0, none⟩, sc, rs⟩ : Stm).sta := qf1 heq
 have hsz : Shp y.sta := by rw [hyS]; exact hsx
 refine wp_seq ?_
 refine Jb I HM ((Vs .n [23]) fun wd14 => (Vf 0 2∘Vf 2 3∘Vf 4 4∘Vf 6 1∘Vf 8 7∘Vf 10 6∘Vf 12 3∘Vf 16 1∘Vc 1 O2∘Vc 3 O2∘Vc 5 O2∘Vc 7 O2∘Vc 9 O2∘Vc 11 O3∘Vc 13 O2∘Vo (vI g) (by rw [hgg])∘Vy 14 (h:=by exact Yl.ix0 gsA g 1 rfl rfl rfl)∘Vy 15 (v := .slice ((rs.getD g Rw.zero).A) ((rs.getD g Rw.zero).l.length) ((rs.getD g Rw.zero).c)) (h:=by exact Yl.r1 8 g Rw.zero om rfl rfl rfl)∘Vo (vS gy yl.length yc) (by rw [hy])∘Vc 17 O2∘Vo (vI c) (by rw [hcc])∘Vy 18 (h:=by exact Yl.ix0 gy c 3 rfl rfl rfl)∘Vf 19 2∘Vy 20 (v := vQ yz.floor) (h:=by exact Yl.qo rfl rfl kr (fun _ h => h.qat 9 (j := 2) rfl om hy (hyz) rfl))∘Vy 21 (v := .agg #[vI o.task, vI o.group, vI o.weight, vI o.cpu, vQ o.mask, .bool true, vQ yz.floor, vW 0]) (h:=by exact Yl.build (vs := [(0, vI o.task), (1, vI o.group), (2, vI o.weight), (3, vI o.cpu), (4, vQ o.mask), (5, .bool true), (6, vQ yz.floor)]) rfl kr kr)∘Vo (.agg tn.cells) (by rw [← htn]; try rfl)∘VA 22 .n #[vI 0, vI 0, vI 0, vI 0, vQ 0, .bool false, vQ 0, vW 0]) fun w8 g8 => fun a I HM HS => ?_)
 refine s_on I 23 rfl (e_sa I HM 0 rfl rfl rfl rfl rfl si_tk rfl rfl (qbi tn) fun w14_23 HM => ?_)
 refine noS kr ?_
 refine qb kr ?_
 refine Jb I HM ((JP∘Jp 1∘Jj∘JQ∘JB) fun a I HM => ?_)
 refine qi (fun mS aS wS => ∃ (n : Nat), (n ≤ ts.length) ∧ (∀ j, j < n → (ts.getD j Tk.zero).id ≤ o.task) ∧ mS = ts.length - n ∧ Fr aS 146 [] [(9, vI n), (8, vP g8 0), (7, vP g7 0), (73, .bool false), (66, .bool false), (47, .bool false), (33, .bool false), (23, .bool false), (10, .bool false), (6, vI 0), (5, vI 0), (4, vP g4 0), (3, vP g3 0), (2, vP g2 0)] ∧ Mem W wS (.blk g8 tn.cells 81 :: .blk g7 y.cells 45 :: .blk g4 #[vI 0, vQ 0, vN, vN, vN, vN, vN] 45 :: .blk g3 o.cells 52 :: .blk g2 #[vI cp, vQ cr, .slice gA ng gc, .slice lA nl lc, .slice uA nu uc, .slice tA nt tc, vS gsA ns sc] 45 :: fG gA ng gc gs :: fI lA nl lc cl :: fI uA nu uc cu :: fT tA nt tc ts :: fS (some ⟨gsA, 0, none⟩) ns sc rs :: (fR rs ++ (stF y ++ (T))))) (m := ts.length - 0) ⟨0, Nat.zero_le _, fun j h => by omega, rfl, I.sub kr, HM.pt 10 [0, 1, 2, 3, 4, 5, 6, 7, 8, 9]⟩ ?_
 clear I HM; rintro mS a w_ ⟨n, hn, hu, rfl, I, HM⟩
 refine Jb I HM ((JQ) fun a I HM => ?_)
 refine qy (fun aS wS => Fr aS 146 [] [(121, .bool (decide (n < ts.length ∧ (ts.getD n Tk.zero).id < o.task))), (9, vI n), (8, vP g8 0), (7, vP g7 0), (73, .bool false), (66, .bool false), (47, .bool false), (33, .bool false), (23, .bool false), (10, .bool false), (6, vI 0), (5, vI 0), (4, vP g4 0), (3, vP g3 0), (2, vP g2 0)] ∧ Mem W wS (.blk g8 tn.cells 81 :: .blk g7 y.cells 45 :: .blk g4 #[vI 0, vQ 0, vN, vN, vN, vN, vN] 45 :: .blk g3 o.cells 52 :: .blk g2 #[vI cp, vQ cr, .slice gA ng gc, .slice lA nl lc, .slice uA nu uc, .slice tA nt tc, vS gsA ns sc] 45 :: fG gA ng gc gs :: fI lA nl lc cl :: fI uA nu uc cu :: fT tA nt tc ts :: fS (some ⟨gsA, 0, none⟩) ns sc rs :: (fR rs ++ (stF y ++ (T))))) ?_ ?_
 ·
  refine Jb I HM ((Vs .n []) fun wd16 => (Vp [0]∘Vf 1 5∘Vc 2 O4∘Vl 3∘Vp [4, 5]) fun a I HM HS => ?_)
  rcases I.tf 111 rfl with ⟨hb111, I⟩ | ⟨hb111, I⟩
  ·
   have hd111 := of_decide_eq_true hb111
   refine Vb I HM HS ((Vf 6 5∘Vp [8]∘Vf 12 0∘Vc 7 O4) ?_)
   repeat (first | clear I | clear HM | clear HS)
   intro a I HM HS
   obtain ⟨gtA, rfl⟩ := qe (HM.own (i := 8) rfl) (Nat.lt_of_le_of_lt (Nat.zero_le _) (show n < nt from by omega))
   refine Vb I HM HS ((Vy 9 (h:=by exact Yl.ix0 gtA n 8 rfl rfl rfl)∘Vf 10 0∘Vy 11 (v := vI ((ts.getD n Tk.zero).id)) (h:=by exact Yl.qo rfl rfl kr (fun _ h => (by have := h.qq qd (i := 8) rfl (k := n) (off := 0) (x := (ts.getD n Tk.zero)) ((getD_at Tk.zero om)) rfl; simpa using this)))∘Vc 13 O0∘Vp [14, 15]∘Vd∘Jd6) fun a I HM => ?_)
   have I := I.sp 121 (.bool (decide (n < ts.length ∧ (ts.getD n Tk.zero).id < o.task))) rfl (congrArg Value.bool (decide_eq_decide.2 (by rw [hti]; omega)))
   exact ⟨I.sub kr, HM.pt 10 [0, 1, 2, 3, 4, 5, 6, 7, 8, 9]⟩
  have hd111 := of_decide_eq_false hb111
  refine ap I (fun _ => HS) [6, 7, 8, 9, 10, 11, 12, 13, 14, 15] (bt 16 []) [(121, .bool false)] fun a I => ?_
  refine qb kr ?_
  have I := I.sp 121 (.bool (decide (n < ts.length ∧ (ts.getD n Tk.zero).id < o.task))) rfl (congrArg Value.bool (decide_eq_false om).symm)
  exact ⟨I.sub kr, HM.pt 10 [0, 1, 2, 3, 4, 5, 6, 7, 8, 9]⟩
 clear I HM; rintro a w16 ⟨I, HM⟩
 refine Jb I HM (Ju (fun hb121 => ?_) fun hb121 => ?_)
 ·
  intro a I HM
  have hd121 := of_decide_eq_true hb121
  refine Jb I HM ((JT∘JS'∘JB∘JR∘Jp 1∘JaK 1∘Jp 1∘Jd2∘Jq) fun a I HM => ?_)
  exact ⟨_, om, n + 1, by omega, qhd hu om, rfl, I.sub kr, HM.pt 10 [0, 1, 2, 3, 4, 5, 6, 7, 8, 9]⟩
 intro a I HM
 have hd121 := of_decide_eq_false hb121
 have hstop : n = ts.length ∨ o.task < (ts.getD n Tk.zero).id := qt4 hn hu0 hd121
 refine Jb I HM ((JF∘JX) fun a I HM => ?_)
 refine qy (fun aS wS => ∃ (g124 : Nat) (A129 : Option Addr) (c129 : Nat) (g131 : Nat) (A132 : Option Addr) (c132 : Nat) (A137 : Option Addr) (c137 : Nat), Fr aS 146 [] [(121, .bool false), (9, vI n), (8, vP g8 0), (7, vP g7 0), (73, .bool false), (66, .bool false), (47, .bool false), (33, .bool false), (23, .bool false), (10, .bool false), (6, vI 0), (5, vI 0), (4, vP g4 0), (3, vP g3 0), (2, vP g2 0)] ∧ Mem W wS (.blk g131 tn.cells 81 :: .blk g8 tn.cells 81 :: .blk g7 y.cells 45 :: .blk g4 #[vI 0, vQ 0, vN, vN, vN, vN, vN] 45 :: .blk g3 o.cells 52 :: .blk g2 #[vI cp, vQ cr, .slice gA ng gc, .slice lA nl lc, .slice uA nu uc, .slice A137 (nt + 1) c137, vS gsA ns sc] 45 :: fG gA ng gc gs :: fI lA nl lc cl :: fI uA nu uc cu :: fT A137 (nt + 1) c137 (insT ts n tn) :: fS (some ⟨gsA, 0, none⟩) ns sc rs :: (fR rs ++ (stF y ++ (T)))) ∧ (0 + n ≤ c129) ∧ ((0 + n) + 1 ≤ c132) ∧ (((0 + n) + 1) + (nt - n) ≤ c137)) ?_ ?_
 ·
  refine Jb I HM ((Vs .n [15]) fun wd18 => (Vf 1 5∘Vp [3]∘Vf 9 5∘Vp [11]∘Vc 2 O4∘Vy 4 (h:=by exact Yl.qbe ei_tk (j := n) rfl rfl rfl om)∘Vy 6 (v := .agg tn.cells) (h:=by exact Yl.loadS rfl rfl si_tk rfl (fun _ h => qa (h.blk (i := 0) rfl)))∘Vc 10 O4∘Vy 12 (h:=by exact Yl.sliceFrom ei_tk (j := n) rfl rfl rfl om)) fun a I HM HS => ?_)
  refine qu [0, 7] kr rfl ?_
  refine all_cons ?_ ?_
  ·refine qk I (i := 0) rfl rfl ?_
   refine qac I HM rfl ei_tk rfl de ?_
   clear I HM; intro a w124 g124 I HM
   refine keepS (HM.pt 11 [1, 2, 3, 4, 5, 6, 7, 8, 9, 10]) (fun HS => ?_)
   refine qu [5, 7] kr rfl ?_
   refine all_cons ?_ ?_
   ·refine qk I (i := 5) rfl rfl ?_
    refine ze I HM (i := 0) rfl ei_tk rfl rfl rfl (news := ((ts.take n).flatMap tkL)) (Rd.qsd qd (tsRd (l := ts) hlt (HM.rd (i := 9) rfl)) om) (qbs _) om om rfl de ?_
    clear I HM; intro a w129 A129 c129 I HM hc129
    refine keepS (HM.pt 11 [1, 2, 3, 4, 5, 6, 7, 8, 9, 10]) (fun HS => ?_)
    refine s_on I 7 rfl (s_el I HM ei_tk [(0, .agg tn.cells)] tn.cells ?_)
    clear I HM; intro a w131 g131 I HM
    refine keepS (HM.pt 12 [2, 3, 4, 5, 6, 7, 8, 9, 10, 11]) (fun HS => ?_)
    refine s_on I 8 rfl (ze I HM (i := 1) rfl ei_tk rfl rfl rfl (news := (tkL tn)) (HM.rdBlk (i := 0) (n := 1) (size := 8) rfl rfl) (qes tn) om om rfl de ?_)
    clear I HM; intro a w132 A132 c132 I HM hc132
    refine keepS (HM.pt 12 [2, 3, 4, 5, 6, 7, 8, 9, 10, 11]) (fun HS => ?_)
    refine s_on I 13 rfl (ze I HM (i := 1) rfl ei_tk rfl rfl rfl (news := ((ts.drop n).flatMap tkL)) (qm2 qd (tsRd (l := ts) hlt (HM.rd (i := 10) rfl)) om om om) (qbs _) om om rfl de ?_)
    clear I HM; intro a w137 A137 c137 I HM hc137
    refine keepS (HM.pt 12 [2, 3, 4, 5, 6, 7, 8, 9, 10, 11]) (fun HS => ?_)
    refine Vb I HM HS ((Vf 14 5) fun a I HM HS => ?_)
    refine s_on I 15 rfl (s_es I HM 6 fun w18_15 HM => ?_)
    refine noS kr ?_
    refine qb kr ?_
    replace HM : Mem W _ (.blk g131 tn.cells 81 :: .row (.slice A137 (((0 + n) + 1) + (nt - n)) c137) (((0 + n) + 1) + (nt - n)) ((([] ++ ((ts.take n).flatMap tkL)) ++ (tkL tn)) ++ ((ts.drop n).flatMap tkL)) 81 8 :: .blk g8 tn.cells 81 :: .blk g7 y.cells 45 :: .blk g4 #[vI 0, vQ 0, vN, vN, vN, vN, vN] 45 :: .blk g3 o.cells 52 :: .blk g2 #[vI cp, vQ cr, .slice gA ng gc, .slice lA nl lc, .slice uA nu uc, .slice A137 (((0 + n) + 1) + (nt - n)) c137, vS gsA ns sc] 45 :: fG gA ng gc gs :: fI lA nl lc cl :: fI uA nu uc cu :: fT tA nt tc ts :: fS (some ⟨gsA, 0, none⟩) ns sc rs :: (fR rs ++ (stF y ++ (T)))) := HM
    have hn137 : ((0 + n) + 1) + (nt - n) = nt + 1 := by omega
    rw [hn137] at HM
    replace HM := HM.asRow (i := 1) (ys := (insT ts n tn).flatMap tkL) rfl (by rw [qcs, List.nil_append, List.append_assoc])
    replace HM := HM.pt (fs' := (.blk g131 tn.cells 81 :: .blk g8 tn.cells 81 :: .blk g7 y.cells 45 :: .blk g4 #[vI 0, vQ 0, vN, vN, vN, vN, vN] 45 :: .blk g3 o.cells 52 :: .blk g2 #[vI cp, vQ cr, .slice gA ng gc, .slice lA nl lc, .slice uA nu uc, .slice A137 (nt + 1) c137, vS gsA ns sc] 45 :: fG gA ng gc gs :: fI lA nl lc cl :: fI uA nu uc cu :: fT A137 (nt + 1) c137 (insT ts n tn) :: fS (some ⟨gsA, 0, none⟩) ns sc rs :: (fR rs ++ (stF y ++ (T))))) 12 [0, 2, 3, 4, 5, 6, 7, 8, 9, 1, 11]
    exact ⟨g124, A129, c129, g131, A132, c132, A137, c137, I.sub kr, HM.pt 11 [0, 1, 2, 3, 4, 5, 6, 7, 8, 9, 10], hc129, hc132, hc137⟩
   refine all_cons ?_ all_nil
   refine qk I (i := 7) rfl rfl ?_
   refine s_el I HM ei_tk [(0, .agg tn.cells)] tn.cells ?_
   clear I HM; intro a w131 g131 I HM
   refine keepS (HM.pt 12 [2, 3, 4, 5, 6, 7, 8, 9, 10, 11]) (fun HS => ?_)
   refine s_on I 5 rfl (ze I HM (i := 1) rfl ei_tk rfl rfl rfl (news := ((ts.take n).flatMap tkL)) (Rd.qsd qd (tsRd (l := ts) hlt (HM.rd (i := 10) rfl)) om) (qbs _) om om rfl de ?_)
   clear I HM; intro a w129 A129 c129 I HM hc129
   refine keepS (HM.pt 12 [2, 3, 4, 5, 6, 7, 8, 9, 10, 11]) (fun HS => ?_)
   refine s_on I 8 rfl (ze I HM (i := 1) rfl ei_tk rfl rfl rfl (news := (tkL tn)) (HM.rdBlk (i := 0) (n := 1) (size := 8) rfl rfl) (qes tn) om om rfl de ?_)
   clear I HM; intro a w132 A132 c132 I HM hc132
   refine keepS (HM.pt 12 [2, 3, 4, 5, 6, 7, 8, 9, 10, 11]) (fun HS => ?_)
   refine s_on I 13 rfl (ze I HM (i := 1) rfl ei_tk rfl rfl rfl (news := ((ts.drop n).flatMap tkL)) (qm2 qd (tsRd (l := ts) hlt (HM.rd (i := 10) rfl)) om om om) (qbs _) om om rfl de ?_)
   clear I HM; intro a w137 A137 c137 I HM hc137
   refine keepS (HM.pt 12 [2, 3, 4, 5, 6, 7, 8, 9, 10, 11]) (fun HS => ?_)
   refine Vb I HM HS ((Vf 14 5) fun a I HM HS => ?_)
   refine s_on I 15 rfl (s_es I HM 6 fun w18_15 HM => ?_)
   refine noS kr ?_
   refine qb kr ?_
   replace HM : Mem W _ (.blk g131 tn.cells 81 :: .row (.slice A137 (((0 + n) + 1) + (nt - n)) c137) (((0 + n) + 1) + (nt - n)) ((([] ++ ((ts.take n).flatMap tkL)) ++ (tkL tn)) ++ ((ts.drop n).flatMap tkL)) 81 8 :: .blk g8 tn.cells 81 :: .blk g7 y.cells 45 :: .blk g4 #[vI 0, vQ 0, vN, vN, vN, vN, vN] 45 :: .blk g3 o.cells 52 :: .blk g2 #[vI cp, vQ cr, .slice gA ng gc, .slice lA nl lc, .slice uA nu uc, .slice A137 (((0 + n) + 1) + (nt - n)) c137, vS gsA ns sc] 45 :: fG gA ng gc gs :: fI lA nl lc cl :: fI uA nu uc cu :: fT tA nt tc ts :: fS (some ⟨gsA, 0, none⟩) ns sc rs :: (fR rs ++ (stF y ++ (T)))) := HM
   have hn137 : ((0 + n) + 1) + (nt - n) = nt + 1 := by omega
   rw [hn137] at HM
   replace HM := HM.asRow (i := 1) (ys := (insT ts n tn).flatMap tkL) rfl (by rw [qcs, List.nil_append, List.append_assoc])
   replace HM := HM.pt (fs' := (.blk g131 tn.cells 81 :: .blk g8 tn.cells 81 :: .blk g7 y.cells 45 :: .blk g4 #[vI 0, vQ 0, vN, vN, vN, vN, vN] 45 :: .blk g3 o.cells 52 :: .blk g2 #[vI cp, vQ cr, .slice gA ng gc, .slice lA nl lc, .slice uA nu uc, .slice A137 (nt + 1) c137, vS gsA ns sc] 45 :: fG gA ng gc gs :: fI lA nl lc cl :: fI uA nu uc cu :: fT A137 (nt + 1) c137 (insT ts n tn) :: fS (some ⟨gsA, 0, none⟩) ns sc rs :: (fR rs ++ (stF y ++ (T))))) 12 [0, 2, 3, 4, 5, 6, 7, 8, 9, 1, 11]
   exact ⟨g124, A129, c129, g131, A132, c132, A137, c137, I.sub kr, HM.pt 11 [0, 1, 2, 3, 4, 5, 6, 7, 8, 9, 10], hc129, hc132, hc137⟩
  refine all_cons ?_ all_nil
  refine qk I (i := 7) rfl rfl ?_
  refine s_el I HM ei_tk [(0, .agg tn.cells)] tn.cells ?_
  clear I HM; intro a w131 g131 I HM
  refine keepS (HM.pt 11 [1, 2, 3, 4, 5, 6, 7, 8, 9, 10]) (fun HS => ?_)
  refine s_on I 0 rfl ?_
  refine qac I HM rfl ei_tk rfl de ?_
  clear I HM; intro a w124 g124 I HM
  refine keepS (HM.pt 12 [2, 3, 4, 5, 6, 7, 8, 9, 10, 11]) (fun HS => ?_)
  refine s_on I 5 rfl (ze I HM (i := 0) rfl ei_tk rfl rfl rfl (news := ((ts.take n).flatMap tkL)) (Rd.qsd qd (tsRd (l := ts) hlt (HM.rd (i := 10) rfl)) om) (qbs _) om om rfl de ?_)
  clear I HM; intro a w129 A129 c129 I HM hc129
  refine keepS (HM.pt 12 [2, 3, 4, 5, 6, 7, 8, 9, 10, 11]) (fun HS => ?_)
  refine s_on I 8 rfl (ze I HM (i := 0) rfl ei_tk rfl rfl rfl (news := (tkL tn)) (HM.rdBlk (i := 1) (n := 1) (size := 8) rfl rfl) (qes tn) om om rfl de ?_)
  clear I HM; intro a w132 A132 c132 I HM hc132
  refine keepS (HM.pt 12 [2, 3, 4, 5, 6, 7, 8, 9, 10, 11]) (fun HS => ?_)
  refine s_on I 13 rfl (ze I HM (i := 0) rfl ei_tk rfl rfl rfl (news := ((ts.drop n).flatMap tkL)) (qm2 qd (tsRd (l := ts) hlt (HM.rd (i := 10) rfl)) om om om) (qbs _) om om rfl de ?_)
  clear I HM; intro a w137 A137 c137 I HM hc137
  refine keepS (HM.pt 12 [2, 3, 4, 5, 6, 7, 8, 9, 10, 11]) (fun HS => ?_)
  refine Vb I HM HS ((Vf 14 5) fun a I HM HS => ?_)
  refine s_on I 15 rfl (s_es I HM 6 fun w18_15 HM => ?_)
  refine noS kr ?_
  refine qb kr ?_
  replace HM : Mem W _ (.row (.slice A137 (((0 + n) + 1) + (nt - n)) c137) (((0 + n) + 1) + (nt - n)) ((([] ++ ((ts.take n).flatMap tkL)) ++ (tkL tn)) ++ ((ts.drop n).flatMap tkL)) 81 8 :: .blk g131 tn.cells 81 :: .blk g8 tn.cells 81 :: .blk g7 y.cells 45 :: .blk g4 #[vI 0, vQ 0, vN, vN, vN, vN, vN] 45 :: .blk g3 o.cells 52 :: .blk g2 #[vI cp, vQ cr, .slice gA ng gc, .slice lA nl lc, .slice uA nu uc, .slice A137 (((0 + n) + 1) + (nt - n)) c137, vS gsA ns sc] 45 :: fG gA ng gc gs :: fI lA nl lc cl :: fI uA nu uc cu :: fT tA nt tc ts :: fS (some ⟨gsA, 0, none⟩) ns sc rs :: (fR rs ++ (stF y ++ (T)))) := HM
  have hn137 : ((0 + n) + 1) + (nt - n) = nt + 1 := by omega
  rw [hn137] at HM
  replace HM := HM.asRow (i := 0) (ys := (insT ts n tn).flatMap tkL) rfl (by rw [qcs, List.nil_append, List.append_assoc])
  replace HM := HM.pt (fs' := (.blk g131 tn.cells 81 :: .blk g8 tn.cells 81 :: .blk g7 y.cells 45 :: .blk g4 #[vI 0, vQ 0, vN, vN, vN, vN, vN] 45 :: .blk g3 o.cells 52 :: .blk g2 #[vI cp, vQ cr, .slice gA ng gc, .slice lA nl lc, .slice uA nu uc, .slice A137 (nt + 1) c137, vS gsA ns sc] 45 :: fG gA ng gc gs :: fI lA nl lc cl :: fI uA nu uc cu :: fT A137 (nt + 1) c137 (insT ts n tn) :: fS (some ⟨gsA, 0, none⟩) ns sc rs :: (fR rs ++ (stF y ++ (T))))) 12 [1, 2, 3, 4, 5, 6, 7, 8, 9, 0, 11]
  exact ⟨g124, A129, c129, g131, A132, c132, A137, c137, I.sub kr, HM.pt 11 [0, 1, 2, 3, 4, 5, 6, 7, 8, 9, 10], hc129, hc132, hc137⟩
 clear I HM; rintro a w18 ⟨g124, A129, c129, g131, A132, c132, A137, c137, I, HM, hc129, hc132, hc137⟩
 refine Jb I HM ((JP∘Jy (v := .agg #[vI cp, vQ cr, .slice gA ng gc, .slice lA nl lc, .slice uA nu uc, .slice A137 (nt + 1) c137, vS gsA ns sc]) (h:=by exact Yl.loadS rfl rfl si_st rfl (fun _ h => qa (h.blk (i := 5) rfl)))∘Jy (v := .agg y.cells) (h:=by exact Yl.loadS rfl rfl si_st rfl (fun _ h => qa (h.blk (i := 2) rfl)))∘Jf 1∘Jc O1∘Jo (vI g) (by rw [htg2])∘Jf 3∘Jc O1∘Jo (vI c) (by rw [htc2])∘JL (h:=by exact fun HM => qiy (x := (⟨cp, cr, gA, gc, gs, lA, lc, cl, uA, uc, cu, A137, c137, (insT ts n tn), some ⟨gsA, 0, none⟩, sc, rs⟩ : Stm)) 6 HM rfl (qj7 hlns (qed (by omega : n ≤ ts.length) |>.trans (by rw [hlt]))) hsz (heq.1.2.2) (heq.1.1) (hrg) (by rw [hyS]; exact qdr _) (hsp) hcr (by show ((c : Nat) : Int) < cp; omega) om)) ?_)
 rintro HM _ w145 ⟨y2, rfl, hy2, HM2⟩
 refine ⟨_, rfl, _, (show Mem W w145 (.blk g131 tn.cells 81 :: .blk g8 tn.cells 81 :: .blk g7 y.cells 45 :: .blk g4 #[vI 0, vQ 0, vN, vN, vN, vN, vN] 45 :: .blk g3 o.cells 52 :: .blk g2 #[vI cp, vQ cr, .slice gA ng gc, .slice lA nl lc, .slice uA nu uc, .slice A137 (nt + 1) c137, vS gsA ns sc] 45 :: (stF y2 ++ (stF y ++ (T)))) from HM2), ?_⟩
 refine (JV si_st O3' (h1:=by exact qz y2)) fun w19_7 => (Jp 2∘Jj∘JZ) fun a I HM => ?_
 exact ret3 rfl I (.cellS (i := 3) I HM rfl rfl si_st rfl) (.tmp I rfl) (.tmp I rfl) (OpOut.drop (A := stF y) (qiv (y := y2) 6 HM rfl hy2 ((qf8 (x := (⟨cp, cr, gA, gc, gs, lA, lc, cl, uA, uc, cu, tA, tc, ts, some ⟨gsA, 0, none⟩, sc, rs⟩ : Stm)) (t1 := tn) (decide_eq_true (by show 0 ≤ o.cpu ∧ o.cpu < cp; omega)) (decide_eq_true (by show 1 ≤ o.task ∧ o.task ≤ 65535; omega)) (by show 0 ≤ o.group ∧ o.group < (rs.length : Int); omega) (qdq hcn ⟨hd52.1, hd52.2, by omega, hd47⟩) (by show fidx ts o.task < 0; omega) (qgf hcc om) hgg hcc (congrArg Sp.floor hsy) htn rfl).trans (by rw [hyS, show qcc ts o.task = n from qf7 hn hu hstop]; rfl))))
theorem qki (W w : World) (x : Stm) (ng nl nu nt ns : Nat) (hx : MdOk x ng nl nu nt ns) (T : List Fact) (HM : Mem W w (sdA x ng nl nu nt ns ++ T)) (o : Op30) (ho : o.Ok) (hG : GoodS x.sta) :
    Calls Tryz.prog 76 #[.agg (sdC x ng nl nu nt ns), .agg o.cells] w (OpOut W T (zu x.sta o)) := by
 obtain ⟨cp, cr, gA, gc, gs, lA, lc, cl, uA, uc, cu, tA, tc, ts, sA, sc, rs⟩ := x
 replace HM : Mem W w (fG gA ng gc gs :: fI lA nl lc cl :: fI uA nu uc cu :: fT tA nt tc ts :: fS sA ns sc rs :: (fR rs ++ (T))) := HM
 have hln := hx.ln
 obtain ⟨hlg, hll, hlu, hlt, hls⟩ := hln
 replace hlg : gs.length = ng := hlg; replace hll : cl.length = nl := hll; replace hlu : cu.length = nu := hlu; replace hlt : ts.length = nt := hlt; replace hls : rs.length = ns := hls
 have hlns := hx.ln
 have hsp : SpsOk gs cp rs := hx.spots
 have hrg : rs.length = gs.length := hx.sh.rs
 have hcr : cr < 18446744073709551616 := hx.ok.credit
 obtain ⟨hcp1, hcp2, _, hgs⟩ := zf hx.sh.cfg
 replace hcp1 : 1 ≤ cp := hcp1; replace hcp2 : cp ≤ 64 := hcp2; replace hgs : gsOk gs = true := hgs
 have hgl1 := (qh hgs).1; have hgl2 := (qh hgs).2.1
 have hcll : (cl.length : Int) = cp := hx.sh.cl; have hcul : (cu.length : Int) = cp := hx.sh.cu
 have hfts : ts.length ≤ 1000000 := hx.few.t
 have hoc := ho.cpu; have hot := ho.task; have hog := ho.group; have how := ho.weight; have hoto := ho.to; have hotk := ho.ticks; have hom := ho.mask; have hok8 := ho.kind; unfold I64 at hoc hot hog how hoto hotk
 have hwt_ := qc4 hx.sh; replace hwt_ : ∀ t ∈ ts, 1 ≤ t.weight ∧ t.weight ≤ 65536 := hwt_
 have hld : ∀ c, loadS (⟨cp, cr, gA, gc, gs, lA, lc, cl, uA, uc, cu, tA, tc, ts, sA, sc, rs⟩ : Stm).sta c ≤ 65536000000 ∧ 0 ≤ loadS (⟨cp, cr, gA, gc, gs, lA, lc, cl, uA, uc, cu, tA, tc, ts, sA, sc, rs⟩ : Stm).sta c := fun c => by have h1 : 0 ≤ loadN ts c ∧ loadN ts c ≤ 65536 * ts.length := qdo (c := c) hwt_; exact ⟨by show loadN ts c ≤ _; omega, h1.1⟩
 show Calls Tryz.prog 76 #[.agg #[vI cp, vQ cr, .slice gA ng gc, .slice lA nl lc, .slice uA nu uc, .slice tA nt tc, .slice sA ns sc], .agg o.cells] w _
 refine (Jin2 HM Tryz.func76 133) ?_
 refine (JP∘JE) fun w2 g2 => (JE) fun w3 g3 => (JA #[vI 0, vQ 0, vN, vN, vN, vN, vN]) fun w4 g4 => (Jp 2∘Jj∘JQ∘JP∘Jg 1 O1∘Jp 2) (Ji (fun hd16 => ?_) fun hd16 => ?_)
 ·
  refine (Jp 7∘Jd6∘Jj∘JT∘JP∘Jy (v := .agg #[vI cp, vQ cr, .slice gA ng gc, .slice lA nl lc, .slice uA nu uc, .slice tA nt tc, .slice sA ns sc]) (h:=by exact Yl.loadS rfl rfl si_st rfl (fun _ h => qa (h.blk (i := 2) rfl)))∘JV si_st O0') fun w2_1 => (Jp 2∘Jj∘JZ) fun a I HM => ?_
  exact ret3 rfl I (.cellS (i := 0) I HM rfl rfl si_st rfl) (.tmp I rfl) (.tmp I rfl) (qj (y := (⟨cp, cr, gA, gc, gs, lA, lc, cl, uA, uc, cu, tA, tc, ts, sA, sc, rs⟩ : Stm)) 3 HM rfl hlns (if_pos (decide_eq_false (by show ¬ (0 ≤ o.cpu ∧ o.cpu < cp); omega))))
 refine (Jg 1 O1∘Jf 0∘Jg 0 O2∘Jp 2∘Jd6∘Jj) (Ju (fun hb23 => ?_) fun hb23 => ?_)
 ·
  intro a I HM
  have hd23 := of_decide_eq_true hb23
  refine Jb I HM ((JT∘JP∘Jy (v := .agg #[vI cp, vQ cr, .slice gA ng gc, .slice lA nl lc, .slice uA nu uc, .slice tA nt tc, .slice sA ns sc]) (h:=by exact Yl.loadS rfl rfl si_st rfl (fun _ h => qa (h.blk (i := 2) rfl)))∘JV si_st O0') fun w2_1 => (Jp 2∘Jj∘JZ) fun a I HM => ?_)
  exact ret3 rfl I (.cellS (i := 0) I HM rfl rfl si_st rfl) (.tmp I rfl) (.tmp I rfl) (qj (y := (⟨cp, cr, gA, gc, gs, lA, lc, cl, uA, uc, cu, tA, tc, ts, sA, sc, rs⟩ : Stm)) 3 HM rfl hlns (if_pos (decide_eq_false (by show ¬ (0 ≤ o.cpu ∧ o.cpu < cp); omega))))
 intro a I HM
 have hd23 := of_decide_eq_false hb23
 obtain ⟨c, hcc⟩ : ∃ n : Nat, o.cpu = (n : Int) := ⟨o.cpu.toNat, by omega⟩
 have hccp : ((c : Nat) : Int) < cp := by omega
 obtain ⟨lc_, hlc⟩ : ∃ z, loadS (⟨cp, cr, gA, gc, gs, lA, lc, cl, uA, uc, cu, tA, tc, ts, sA, sc, rs⟩ : Stm).sta c = z := ⟨_, rfl⟩
 have hlcb := hld c
 rw [hlc] at hlcb
 refine Jb I HM ((JF∘JS'∘JP∘Jp 1∘Jj∘JQ∘JP∘Jp 1∘Jj∘JB) fun a I HM => ?_)
 refine qi (fun mS aS wS => ∃ (i : Nat) (fr : Int) (mo : Int), ((i : Int) ≤ cp) ∧ (-1 ≤ fr ∧ fr < (i : Int)) ∧ (fr < 0 → mo = -1) ∧ (0 ≤ fr → loadS (⟨cp, cr, gA, gc, gs, lA, lc, cl, uA, uc, cu, tA, tc, ts, sA, sc, rs⟩ : Stm).sta fr.toNat = mo) ∧ (busyF (⟨cp, cr, gA, gc, gs, lA, lc, cl, uA, uc, cu, tA, tc, ts, sA, sc, rs⟩ : Stm).sta o.cpu i = (fr, mo)) ∧ mS = cp.toNat - i ∧ Fr aS 133 [] [(8, vI i), (7, vI fr), (23, .bool false), (6, vI 0), (5, vI 0), (4, vP g4 0), (3, vP g3 0), (2, vP g2 0)] ∧ Mem W wS (.blk g4 #[vI 0, vQ 0, vN, vN, vN, vN, vN] 45 :: .blk g3 o.cells 52 :: .blk g2 #[vI cp, vQ cr, .slice gA ng gc, .slice lA nl lc, .slice uA nu uc, .slice tA nt tc, .slice sA ns sc] 45 :: fG gA ng gc gs :: fI lA nl lc cl :: fI uA nu uc cu :: fT tA nt tc ts :: fS sA ns sc rs :: (fR rs ++ (T)))) (m := cp.toNat - 0) ⟨0, (-1), (-1), by omega, by omega, fun _ => rfl, fun h => absurd h de, rfl, rfl, I.sub kr, HM.pt 8 [0, 1, 2, 3, 4, 5, 6, 7]⟩ ?_
 clear I HM; rintro mS a w_ ⟨i, fr, mo, hi, hfr, hm1, hmo, hbz, rfl, I, HM⟩
 refine Jb I HM ((JQ∘JP∘Jp 1∘Jf 0∘Jg 0 O2∘Jp 1∘Jd3∘Jj) (Ju (fun hb29 => ?_) fun hb29 => ?_))
 ·
  intro a I HM
  have hd29 := of_decide_eq_true hb29
  obtain ⟨lw, hlw⟩ : ∃ z, loadS (⟨cp, cr, gA, gc, gs, lA, lc, cl, uA, uc, cu, tA, tc, ts, sA, sc, rs⟩ : Stm).sta i = z := ⟨_, rfl⟩
  have hlwb := hld i
  rw [hlw] at hlwb
  refine Jb I HM ((JT∘JS'∘JQ∘JB) fun a I HM => ?_)
  refine qy (fun aS wS => Fr aS 133 [] [(48, .bool (decide ((i : Int) ≠ o.cpu ∧ mo < lw))), (29, .bool true), (8, vI i), (7, vI fr), (23, .bool false), (6, vI 0), (5, vI 0), (4, vP g4 0), (3, vP g3 0), (2, vP g2 0)] ∧ Mem W wS (.blk g4 #[vI 0, vQ 0, vN, vN, vN, vN, vN] 45 :: .blk g3 o.cells 52 :: .blk g2 #[vI cp, vQ cr, .slice gA ng gc, .slice lA nl lc, .slice uA nu uc, .slice tA nt tc, .slice sA ns sc] 45 :: fG gA ng gc gs :: fI lA nl lc cl :: fI uA nu uc cu :: fT tA nt tc ts :: fS sA ns sc rs :: (fR rs ++ (T)))) ?_ ?_
  ·
   refine Jb I HM ((Vs .n []) fun wd7 => (Vp [0]∘Vf 1 1∘Vc 2 O1∘Vp [3, 4]) fun a I HM HS => ?_)
   rcases I.tf 36 rfl with ⟨hb36, I⟩ | ⟨hb36, I⟩
   ·
    have hd36 := bne_iff_ne.1 hb36
    refine Vb I HM HS ((Vp [5, 6, 7]) fun a I HM HS => ?_)
    rcases I.tf 39 rfl with ⟨hb39, I⟩ | ⟨hb39, I⟩
    ·
     have hd39 := of_decide_eq_true hb39
     have hm2 := hm1 om
     refine Vb I HM HS ((Vq [8, 9, 10, 11, 12, 13, 14, 15, 16] [(48, .bool true)]∘Vd∘Jd6) fun a I HM => ?_)
     have I := I.sp 48 (.bool (decide ((i : Int) ≠ o.cpu ∧ mo < lw))) rfl (congrArg Value.bool (decide_eq_true om).symm)
     exact ⟨I.sub kr, HM.pt 8 [0, 1, 2, 3, 4, 5, 6, 7]⟩
    have hd39 := of_decide_eq_false hb39
    refine ap I (fun _ => HS) [9] (bt 17 [8, 10, 11, 12, 13, 14, 15, 16]) [(41, vI i)] fun a I => ?_
    refine s_az I HS 8 rfl (v := .agg #[vI cp, vQ cr, .slice gA ng gc, .slice lA nl lc, .slice uA nu uc, .slice tA nt tc, .slice sA ns sc]) (Yl.loadS rfl rfl si_st rfl (fun _ h => qa (h.blk (i := 2) rfl))) fun a I => ?_
    refine s_az I HS 11 rfl (v := .agg #[vI cp, vQ cr, .slice gA ng gc, .slice lA nl lc, .slice uA nu uc, .slice tA nt tc, .slice sA ns sc]) (Yl.loadS rfl rfl si_st rfl (fun _ h => qa (h.blk (i := 2) rfl))) fun a I => ?_
    refine zh I (fun _ => HS) (i := 12) rfl rfl (d := 44) rfl de kr (fun _ _ _ h => h) (v := vI fr) (fun _ => Yl.pure kr) fun a I => ?_
    replace I := I.sp 44 (vI fr.toNat) rfl (by rw [Int.toNat_of_nonneg om])
    refine s_on I 10 rfl (e_is I HM [.agg #[vI cp, vQ cr, .slice gA ng gc, .slice lA nl lc, .slice uA nu uc, .slice tA nt tc, .slice sA ns sc], vI i] (vI lw) rfl rfl (qc7 (x := (⟨cp, cr, gA, gc, gs, lA, lc, cl, uA, uc, cu, tA, tc, ts, sA, sc, rs⟩ : Stm)) hx (HM.sdRd 3 rfl hlns) hlw) fun w42 hbw HM a I => ?_)
    refine keepS (HM.pt 8 [0, 1, 2, 3, 4, 5, 6, 7]) (fun HS => ?_)
    refine s_on I 13 rfl (e_is I HM [.agg #[vI cp, vQ cr, .slice gA ng gc, .slice lA nl lc, .slice uA nu uc, .slice tA nt tc, .slice sA ns sc], vI fr.toNat] (vI mo) rfl rfl (qc7 (x := (⟨cp, cr, gA, gc, gs, lA, lc, cl, uA, uc, cu, tA, tc, ts, sA, sc, rs⟩ : Stm)) hx (HM.sdRd 3 rfl hlns) (hmo om)) fun w45 hbw HM a I => ?_)
    refine keepS (HM.pt 8 [0, 1, 2, 3, 4, 5, 6, 7]) (fun HS => ?_)
    refine ap I (fun _ => HS) [14, 15, 16] (bt 17 []) [(48, .bool (decide ((lw : Int) > (mo : Int))))] fun a I => ?_
    refine qb kr ?_
    have I := I.sp 48 (.bool (decide ((i : Int) ≠ o.cpu ∧ mo < lw))) rfl (congrArg Value.bool (decide_eq_decide.2 om))
    exact ⟨I.sub kr, HM.pt 8 [0, 1, 2, 3, 4, 5, 6, 7]⟩
   have hd36 := bne_eq_false_iff_eq.1 hb36
   refine ap I (fun _ => HS) [5, 6, 7, 8, 9, 10, 11, 12, 13, 14, 15, 16] (bt 17 []) [(48, .bool false)] fun a I => ?_
   refine qb kr ?_
   have I := I.sp 48 (.bool (decide ((i : Int) ≠ o.cpu ∧ mo < lw))) rfl (congrArg Value.bool (decide_eq_false om).symm)
   exact ⟨I.sub kr, HM.pt 8 [0, 1, 2, 3, 4, 5, 6, 7]⟩
  clear I HM; rintro a w7 ⟨I, HM⟩
  refine Jb I HM (Ji (fun hd48 => ?_) fun hd48 => ?_)
  ·
   refine (JT∘JR∘Jp 2∘Jd1∘Jj∘JR∘Jp 1∘JaK 1∘Jp 1∘Jd2∘Jq) fun a I HM => ?_
   exact ⟨_, om, i + 1, (i : Int), lw, by omega, by omega, fun h => by omega, fun _ => hlw, by rw [qcr hbz, if_pos ⟨by omega, by rw [hlw]; omega⟩, hlw], rfl, I.sub kr, HM.pt 8 [0, 1, 2, 3, 4, 5, 6, 7]⟩
  refine (JF∘JS'∘JR∘Jp 1∘JaK 1∘Jp 1∘Jd2∘Jq) fun a I HM => ?_
  exact ⟨_, om, i + 1, fr, mo, by omega, by omega, hm1, hmo, by rw [qcr hbz, if_neg (by rw [hlw]; omega)], rfl, I.sub kr, HM.pt 8 [0, 1, 2, 3, 4, 5, 6, 7]⟩
 intro a I HM
 have hd29 := of_decide_eq_false hb29
 have hcpi : i = cp.toNat := by omega
 revert HM; revert a; repeat (first | clear I | clear HM)
 intro a I HM
 subst hcpi
 have hbb_ := qer (cpu := o.cpu) hld de cp.toNat
 rw [hbz] at hbb_
 replace hbb_ : -1 ≤ fr ∧ fr < (cp.toNat : Int) ∧ -1 ≤ mo ∧ mo ≤ 65536000000 := hbb_
 refine Jb I HM ((JF∘JX∘JG∘JP∘Jp 1∘Jj∘JQ∘JP∘Jp 1∘Jj∘JB) fun a I HM => ?_)
 refine qi (fun mS aS wS => ∃ (n : Nat) (be : Int), (n ≤ ts.length) ∧ (bestI (bestF (⟨cp, cr, gA, gc, gs, lA, lc, cl, uA, uc, cu, tA, tc, ts, sA, sc, rs⟩ : Stm).sta o n) = be) ∧ mS = ts.length - n ∧ Fr aS 133 [] [(10, vI n), (9, vI be), (29, .bool false), (8, vI cp.toNat), (7, vI fr), (23, .bool false), (6, vI 0), (5, vI 0), (4, vP g4 0), (3, vP g3 0), (2, vP g2 0)] ∧ Mem W wS (.blk g4 #[vI 0, vQ 0, vN, vN, vN, vN, vN] 45 :: .blk g3 o.cells 52 :: .blk g2 #[vI cp, vQ cr, .slice gA ng gc, .slice lA nl lc, .slice uA nu uc, .slice tA nt tc, .slice sA ns sc] 45 :: fG gA ng gc gs :: fI lA nl lc cl :: fI uA nu uc cu :: fT tA nt tc ts :: fS sA ns sc rs :: (fR rs ++ (T)))) (m := ts.length - 0) ⟨0, (-1), Nat.zero_le _, rfl, rfl, I.sub kr, HM.pt 8 [0, 1, 2, 3, 4, 5, 6, 7]⟩ ?_
 clear I HM; rintro mS a w_ ⟨n, be, hn, hbe, rfl, I, HM⟩
 refine Jb I HM ((JQ∘JP∘Jp 1∘Jg 5 O2∘Jl∘Jp 1∘Jd3∘Jj) (Ju (fun hb54 => ?_) fun hb54 => ?_))
 ·
  intro a I HM
  have hd54 := of_decide_eq_true hb54
  revert HM; revert a; repeat (first | clear I | clear HM)
  intro a I HM
  obtain ⟨gtA, rfl⟩ := qe (HM.own (i := 6) rfl) (Nat.lt_of_le_of_lt (Nat.zero_le _) (show n < nt from (by omega : n < nt)))
  obtain ⟨t, ht⟩ : ∃ z, ts[n]? = some z := ⟨_, List.getElem?_eq_getElem om⟩
  obtain ⟨htg, hto⟩ := hx.task ht
  have hti := htg.id; have htgr := htg.group; have htc := htg.cpu; have htw := htg.weight; have htv := hto.v; have htr := hto.r; have htm := hto.mask
  replace htc : 0 ≤ t.cpu ∧ t.cpu < cp := htc
  obtain ⟨gt, hgt⟩ : ∃ n : Nat, t.group = (n : Int) := ⟨t.group.toNat, by omega⟩
  obtain ⟨ct, hct⟩ : ∃ n : Nat, t.cpu = (n : Int) := ⟨t.cpu.toNat, by omega⟩
  obtain ⟨wt, hwt⟩ : ∃ n : Nat, t.weight = (n : Int) := ⟨t.weight.toNat, by omega⟩
  have hEo : (⟨t.v, t.r, wt⟩ : En).Ok := En.qda htg.ent hwt htv
  have hbi := qb6 hbe
  obtain ⟨bb, hbb⟩ : ∃ n : Nat, be.toNat = n := ⟨_, rfl⟩
  have hmb := Nat.div_le_self t.mask (2 ^ c)
  have hbw := fun h => hwt_ (ts.getD bb Tk.zero) (qm Tk.zero h)
  have hcx : (t.id ∈ cu) ↔ cu.getD ct 0 = t.id := qwd (s := (⟨cp, cr, gA, gc, gs, lA, lc, cl, uA, uc, cu, some ⟨gtA, 0, none⟩, tc, ts, sA, sc, rs⟩ : Stm).sta) hG (List.mem_of_getElem? ht) hct
  have hmay := qwe (x := (⟨cp, cr, gA, gc, gs, lA, lc, cl, uA, uc, cu, some ⟨gtA, 0, none⟩, tc, ts, sA, sc, rs⟩ : Stm)) (t := t) hcc hbz hlc hct
  refine Jb I HM ((JT∘JS'∘JQ∘JB∘JP∘Jg 5 O2∘Jp 1∘Jy (h:=by exact Yl.ix0 gtA n 8 rfl rfl rfl)∘Jy (v := .agg t.cells) (h:=by exact Yl.loadS rfl rfl si_tk rfl (fun _ h => h.qbf qd (i := 6) rfl (ht)))∘JA #[vI 0, vI 0, vI 0, vI 0, vQ 0, .bool false, vQ 0, vW 0]) fun w11 g11 => (JV si_tk O0' (h1:=by exact qbi t)) fun w13_6 => (Jd4∘Jj∘JQ) fun a I HM => ?_)
  refine qy (fun aS wS => Fr aS 133 [] [(103, .bool (!(decide (t.ready = true ∧ t.cpu = fr ∧ (t.mask / 2 ^ c) % 2 = 1 ∧ cu.getD ct 0 ≠ t.id ∧ 2 * t.weight ≤ mo - lc_)))), (11, vP g11 0), (54, .bool true), (10, vI n), (9, vI be), (29, .bool false), (8, vI cp.toNat), (7, vI fr), (23, .bool false), (6, vI 0), (5, vI 0), (4, vP g4 0), (3, vP g3 0), (2, vP g2 0)] ∧ Mem W wS (.blk g11 t.cells 81 :: .blk g4 #[vI 0, vQ 0, vN, vN, vN, vN, vN] 45 :: .blk g3 o.cells 52 :: .blk g2 #[vI cp, vQ cr, .slice gA ng gc, .slice lA nl lc, .slice uA nu uc, vS gtA nt tc, .slice sA ns sc] 45 :: fG gA ng gc gs :: fI lA nl lc cl :: fI uA nu uc cu :: fT (some ⟨gtA, 0, none⟩) nt tc ts :: fS sA ns sc rs :: (fR rs ++ (T)))) ?_ ?_
  ·
   refine Jb I HM ((Vs .n []) fun wd14 => (Vp [0, 1, 2]) fun a I HM HS => ?_)
   rcases I.tf 64 rfl with ⟨hb64, I⟩ | ⟨hb64, I⟩
   ·
    have hd64 := of_decide_eq_true hb64
    refine Vb I HM HS ((Vq [3, 4, 5, 6, 7, 8, 9, 10, 11, 12, 13, 14, 15, 16, 17, 18, 19, 20, 21, 22, 23, 24, 25, 26, 27, 28, 29, 30, 31, 32, 33, 34, 35, 36, 37, 38, 39, 40, 41] [(103, .bool true)]∘Vd∘Jd4) fun a I HM => ?_)
    have I := I.sp 103 (.bool (!(decide (t.ready = true ∧ t.cpu = fr ∧ (t.mask / 2 ^ c) % 2 = 1 ∧ cu.getD ct 0 ≠ t.id ∧ 2 * t.weight ≤ mo - lc_)))) rfl (congrArg Value.bool (by rw [decide_eq_false (fun h => by have := h.2.1; omega)]; rfl))
    exact ⟨I.sub kr, HM.pt 9 [0, 1, 2, 3, 4, 5, 6, 7, 8]⟩
   have hd64 := of_decide_eq_false hb64
   refine ap I (fun _ => HS) [3] (bf 42 [0, 1, 2, 3]) [(65, vP g11 5)] fun a I => ?_
   refine s_ac I HS 4 0 (v := .bool t.ready) fun a I => ?_
   refine ap I (fun _ => HS) [5, 6, 7] (bf 42 [0, 1, 2, 3, 4, 5, 6, 7]) [(69, .bool (!t.ready))] fun a I => ?_
   refine Jb I HM (Ju (fun hb69 => ?_) fun hb69 => ?_)
   ·
    intro a I HM
    refine ap I (fun _ => HS) [8, 9, 10, 11, 12, 13, 14, 15, 16, 17, 18, 19, 20, 21, 22, 23, 24, 25, 26, 27, 28, 29, 30, 31, 32, 33, 34, 35, 36, 37, 38, 39, 40, 41] (bt 42 []) [(103, .bool true)] fun a I => ?_
    refine qb kr ?_
    have I := I.sp 103 (.bool (!(decide (t.ready = true ∧ t.cpu = fr ∧ (t.mask / 2 ^ c) % 2 = 1 ∧ cu.getD ct 0 ≠ t.id ∧ 2 * t.weight ≤ mo - lc_)))) rfl (congrArg Value.bool (by rw [decide_eq_false (fun h => by simp [h.1] at hb69)]; rfl))
    exact ⟨I.sub kr, HM.pt 9 [0, 1, 2, 3, 4, 5, 6, 7, 8]⟩
   intro a I HM
   refine ap I (fun _ => HS) [8, 10] (bf 42 [0, 1, 2, 3, 4, 5, 6, 7, 8, 10]) [(72, vI fr), (70, vP g11 3)] fun a I => ?_
   refine s_ac I HS 9 0 (v := vI t.cpu) fun a I => ?_
   refine ap I (fun _ => HS) [11, 12, 13] (bf 42 [0, 1, 2, 3, 4, 5, 6, 7, 8, 9, 10, 11, 12, 13]) [(75, .bool ((t.cpu : Int) != (fr : Int)))] fun a I => ?_
   refine Jb I HM (Jh (fun hd75 => ?_) fun hd75 => ?_)
   ·
    intro a I HM
    refine ap I (fun _ => HS) [14, 15, 16, 17, 18, 19, 20, 21, 22, 23, 24, 25, 26, 27, 28, 29, 30, 31, 32, 33, 34, 35, 36, 37, 38, 39, 40, 41] (bt 42 []) [(103, .bool true)] fun a I => ?_
    refine qb kr ?_
    have I := I.sp 103 (.bool (!(decide (t.ready = true ∧ t.cpu = fr ∧ (t.mask / 2 ^ c) % 2 = 1 ∧ cu.getD ct 0 ≠ t.id ∧ 2 * t.weight ≤ mo - lc_)))) rfl (congrArg Value.bool (by rw [decide_eq_false (fun h => by have := h.2.1; omega)]; rfl))
    exact ⟨I.sub kr, HM.pt 9 [0, 1, 2, 3, 4, 5, 6, 7, 8]⟩
   intro a I HM
   refine ap I (fun _ => HS) [15] (bf 42 [0, 1, 2, 3, 4, 5, 6, 7, 8, 9, 10, 11, 12, 13, 15]) [(77, vP g11 0)] fun a I => ?_
   refine s_az I HS 14 rfl (v := .agg #[vI cp, vQ cr, .slice gA ng gc, .slice lA nl lc, .slice uA nu uc, vS gtA nt tc, .slice sA ns sc]) (Yl.loadS rfl rfl si_st rfl (fun _ h => qa (h.blk (i := 3) rfl))) fun a I => ?_
   refine s_ac I HS 16 0 (v := vI t.id) fun a I => ?_
   refine s_on I 17 rfl (e_is I HM [.agg #[vI cp, vQ cr, .slice gA ng gc, .slice lA nl lc, .slice uA nu uc, vS gtA nt tc, .slice sA ns sc], vI t.id] (.bool (decide (t.id ∈ cu))) rfl rfl (qgp (x := (⟨cp, cr, gA, gc, gs, lA, lc, cl, uA, uc, cu, some ⟨gtA, 0, none⟩, tc, ts, sA, sc, rs⟩ : Stm)) hlns (HM.sdRd 4 rfl hlns) hx.few.u t.id) fun w79 hbw HM a I => ?_)
   refine keepS (HM.pt 9 [0, 1, 2, 3, 4, 5, 6, 7, 8]) (fun HS => ?_)
   refine ap I (fun _ => HS) [18, 19] (bf 42 [0, 1, 2, 3, 4, 5, 6, 7, 8, 9, 10, 11, 12, 13, 14, 15, 16, 17, 18, 19]) [(81, .bool (decide (t.id ∈ cu)))] fun a I => ?_
   refine Jb I HM (Ji (fun hd81 => ?_) fun hd81 => ?_)
   ·
    intro a I HM
    refine ap I (fun _ => HS) [20, 21, 22, 23, 24, 25, 26, 27, 28, 29, 30, 31, 32, 33, 34, 35, 36, 37, 38, 39, 40, 41] (bt 42 []) [(103, .bool true)] fun a I => ?_
    refine qb kr ?_
    have I := I.sp 103 (.bool (!(decide (t.ready = true ∧ t.cpu = fr ∧ (t.mask / 2 ^ c) % 2 = 1 ∧ cu.getD ct 0 ≠ t.id ∧ 2 * t.weight ≤ mo - lc_)))) rfl (congrArg Value.bool (by rw [decide_eq_false (fun h => h.2.2.2.1 (hcx.1 hd81))]; rfl))
    exact ⟨I.sub kr, HM.pt 9 [0, 1, 2, 3, 4, 5, 6, 7, 8]⟩
   intro a I HM
   refine ap I (fun _ => HS) [20, 22] (bt 42 [21, 23, 24, 25, 26, 27, 28, 29, 30, 31, 32, 33, 34, 35, 36, 37, 38, 39, 40, 41]) [(84, vP g3 1), (82, vP g11 4)] fun a I => ?_
   refine s_ac I HS 21 0 (v := vQ t.mask) fun a I => ?_
   refine s_ac I HS 23 2 (v := vI o.cpu) fun a I => ?_
   replace I := I.sp 85 (vI c) rfl (by rw [hcc])
   refine s_az I HS 24 rfl (v := vQ (t.mask / 2 ^ c : Nat)) (Yl.shrN (m := t.mask) (n := c) rfl rfl rfl (by show _ ≤ 64; omega)) fun a I => ?_
   refine zh I (fun _ => HS) (i := 25) rfl rfl (d := 87) rfl de kr (fun _ _ _ h => h) (v := vQ (Int.tmod ((t.mask / 2 ^ c : Nat) : Int) 2)) (fun _ => Yl.pure kr) fun a I => ?_
   replace I := I.sp 87 (vQ ((t.mask / 2 ^ c) % 2 : Nat)) rfl (zn .u64 _ 2)
   refine ap I (fun _ => HS) [26, 27, 28] (bt 42 [29, 30, 31, 32, 33, 34, 35, 36, 37, 38, 39, 40, 41]) [(90, .bool ((((t.mask / 2 ^ c) % 2 : Nat) : Int) == (0 : Int)))] fun a I => ?_
   refine Jb I HM (Je (fun hd90 => ?_) fun hd90 => ?_)
   ·
    intro a I HM
    refine ap I (fun _ => HS) [29, 30, 31, 32, 33, 34, 35, 36, 37, 38, 39, 40, 41] (bt 42 []) [(103, .bool true)] fun a I => ?_
    refine qb kr ?_
    have I := I.sp 103 (.bool (!(decide (t.ready = true ∧ t.cpu = fr ∧ (t.mask / 2 ^ c) % 2 = 1 ∧ cu.getD ct 0 ≠ t.id ∧ 2 * t.weight ≤ mo - lc_)))) rfl (congrArg Value.bool (by rw [decide_eq_false (fun h => by have := h.2.2.1; omega)]; rfl))
    exact ⟨I.sub kr, HM.pt 9 [0, 1, 2, 3, 4, 5, 6, 7, 8]⟩
   intro a I HM
   refine ap I (fun _ => HS) [29, 36] (bt 42 [30, 31, 32, 33, 34, 35, 37, 38, 39, 40, 41]) [(98, vP g3 1), (91, vP g11 2)] fun a I => ?_
   refine s_ac I HS 30 0 (v := vI t.weight) fun a I => ?_
   refine zh I (fun _ => HS) (i := 31) rfl rfl (d := 93) rfl de kr (fun _ _ _ h => h) (v := vI (IntKind.i64.wrap (2 * t.weight))) (fun _ => Yl.pure kr) fun a I => ?_
   replace I := I.sp 93 (vI (2 * t.weight)) rfl (qcj ⟨by omega, by omega⟩)
   refine s_az I HS 32 rfl (v := .agg #[vI cp, vQ cr, .slice gA ng gc, .slice lA nl lc, .slice uA nu uc, vS gtA nt tc, .slice sA ns sc]) (Yl.loadS rfl rfl si_st rfl (fun _ h => qa (h.blk (i := 3) rfl))) fun a I => ?_
   refine zh I (fun _ => HS) (i := 33) rfl rfl (d := 95) rfl de kr (fun _ _ _ h => h) (v := vI fr) (fun _ => Yl.pure kr) fun a I => ?_
   replace I := I.sp 95 (vI fr.toNat) rfl (by rw [Int.toNat_of_nonneg om])
   refine s_az I HS 35 rfl (v := .agg #[vI cp, vQ cr, .slice gA ng gc, .slice lA nl lc, .slice uA nu uc, vS gtA nt tc, .slice sA ns sc]) (Yl.loadS rfl rfl si_st rfl (fun _ h => qa (h.blk (i := 3) rfl))) fun a I => ?_
   refine s_ac I HS 37 2 (v := vI o.cpu) fun a I => ?_
   replace I := I.sp 99 (vI c) rfl (by rw [hcc])
   refine s_on I 34 rfl (e_is I HM [.agg #[vI cp, vQ cr, .slice gA ng gc, .slice lA nl lc, .slice uA nu uc, vS gtA nt tc, .slice sA ns sc], vI fr.toNat] (vI mo) rfl rfl (qc7 (x := (⟨cp, cr, gA, gc, gs, lA, lc, cl, uA, uc, cu, some ⟨gtA, 0, none⟩, tc, ts, sA, sc, rs⟩ : Stm)) hx (HM.sdRd 4 rfl hlns) (hmo om)) fun w96 hbw HM a I => ?_)
   refine keepS (HM.pt 9 [0, 1, 2, 3, 4, 5, 6, 7, 8]) (fun HS => ?_)
   refine s_on I 38 rfl (e_is I HM [.agg #[vI cp, vQ cr, .slice gA ng gc, .slice lA nl lc, .slice uA nu uc, vS gtA nt tc, .slice sA ns sc], vI c] (vI lc_) rfl rfl (qc7 (x := (⟨cp, cr, gA, gc, gs, lA, lc, cl, uA, uc, cu, some ⟨gtA, 0, none⟩, tc, ts, sA, sc, rs⟩ : Stm)) hx (HM.sdRd 4 rfl hlns) hlc) fun w100 hbw HM a I => ?_)
   refine keepS (HM.pt 9 [0, 1, 2, 3, 4, 5, 6, 7, 8]) (fun HS => ?_)
   refine zh I (fun _ => HS) (i := 39) rfl rfl (d := 101) rfl de kr (fun _ _ _ h => h) (v := vI (IntKind.i64.wrap (mo - lc_))) (fun _ => Yl.pure kr) fun a I => ?_
   replace I := I.sp 101 (vI (mo - lc_)) rfl (qcj ⟨by omega, by omega⟩)
   refine ap I (fun _ => HS) [40, 41] (bt 42 []) [(103, .bool (decide ((2 * t.weight : Int) > (mo - lc_ : Int))))] fun a I => ?_
   refine qb kr ?_
   have I := I.sp 103 (.bool (!(decide (t.ready = true ∧ t.cpu = fr ∧ (t.mask / 2 ^ c) % 2 = 1 ∧ cu.getD ct 0 ≠ t.id ∧ 2 * t.weight ≤ mo - lc_)))) rfl (congrArg Value.bool (by rw [← decide_not]; exact decide_eq_decide.2 (qt5 (by simpa using hb69) om om (fun h => hd81 (hcx.2 h)) om)))
   exact ⟨I.sub kr, HM.pt 9 [0, 1, 2, 3, 4, 5, 6, 7, 8]⟩
  clear I HM; rintro a w14 ⟨I, HM⟩
  refine Jb I HM (Ji' (fun hd103 => ?_) fun hd103 => ?_)
  ·
   refine (JT∘JX∘JG∘JR∘Jp 1∘JaK 1∘Jp 1∘Jd2∘Jq) fun a I HM => ?_
   exact ⟨_, om, n + 1, be, by omega, by rw [qcq hbe, show (Stm.sta (⟨cp, cr, gA, gc, gs, lA, lc, cl, uA, uc, cu, some ⟨gtA, 0, none⟩, tc, ts, sA, sc, rs⟩ : Stm)).ts.getD n Tk.zero = t from qx Tk.zero ht, if_neg (qr8 (x := (⟨cp, cr, gA, gc, gs, lA, lc, cl, uA, uc, cu, some ⟨gtA, 0, none⟩, tc, ts, sA, sc, rs⟩ : Stm)) (hmay.trans (decide_eq_false hd103)))], rfl, I.sub kr, HM.pt 9 [1, 2, 3, 4, 5, 6, 7, 8]⟩
  refine (JF∘JS') fun a I HM => ?_
  refine qy (fun aS wS => Fr aS 133 [] [(116, .bool (decide (be < 0 ∨ (ts.getD bb Tk.zero).weight < t.weight))), (103, .bool false), (11, vP g11 0), (54, .bool true), (10, vI n), (9, vI be), (29, .bool false), (8, vI cp.toNat), (7, vI fr), (23, .bool false), (6, vI 0), (5, vI 0), (4, vP g4 0), (3, vP g3 0), (2, vP g2 0)] ∧ Mem W wS (.blk g11 t.cells 81 :: .blk g4 #[vI 0, vQ 0, vN, vN, vN, vN, vN] 45 :: .blk g3 o.cells 52 :: .blk g2 #[vI cp, vQ cr, .slice gA ng gc, .slice lA nl lc, .slice uA nu uc, vS gtA nt tc, .slice sA ns sc] 45 :: fG gA ng gc gs :: fI lA nl lc cl :: fI uA nu uc cu :: fT (some ⟨gtA, 0, none⟩) nt tc ts :: fS sA ns sc rs :: (fR rs ++ (T)))) ?_ ?_
  ·
   refine Jb I HM ((Vs .n []) fun wd15 => (Vp [0, 1, 2]) fun a I HM HS => ?_)
   rcases I.tf 106 rfl with ⟨hb106, I⟩ | ⟨hb106, I⟩
   ·
    have hd106 := of_decide_eq_true hb106
    refine Vb I HM HS ((Vq [3, 4, 5, 6, 7, 8, 9, 10, 11, 12] [(116, .bool true)]∘Vd∘Jd4) fun a I HM => ?_)
    have I := I.sp 116 (.bool (decide (be < 0 ∨ (ts.getD bb Tk.zero).weight < t.weight))) rfl (congrArg Value.bool (decide_eq_true om).symm)
    exact ⟨I.sub kr, HM.pt 9 [0, 1, 2, 3, 4, 5, 6, 7, 8]⟩
   have hd106 := of_decide_eq_false hb106
   refine ap I (fun _ => HS) [3, 5] (bf 13 [0, 1, 2, 3, 5]) [(109, vP g2 5), (107, vP g11 2)] fun a I => ?_
   refine s_ac I HS 4 0 (v := vI t.weight) fun a I => ?_
   refine s_ac I HS 6 3 fun a I => ?_
   refine zh I (fun _ => HS) (i := 7) rfl rfl (d := 111) rfl de kr (fun _ _ _ h => h) (v := vI be) (fun _ => Yl.pure kr) fun a I => ?_
   replace I := I.sp 111 (vI bb) rfl (by rw [show be = (bb : Int) by omega])
   refine s_az I HS 8 rfl (v := vP gtA (bb * 8)) (Yl.ix0 gtA bb 8 rfl rfl rfl) fun a I => ?_
   refine ap I (fun _ => HS) [9] (bt 13 [10, 11, 12]) [(113, vP gtA (bb * 8 + 2))] fun a I => ?_
   refine s_az I HS 10 rfl (v := vI ((ts.getD bb Tk.zero).weight)) (Yl.qo rfl rfl kr (fun _ h => h.qq qd (i := 7) rfl (k := bb) (off := 2) (x := (ts.getD bb Tk.zero)) ((getD_at Tk.zero om)) rfl)) fun a I => ?_
   refine ap I (fun _ => HS) [11, 12] (bt 13 []) [(116, .bool (decide ((t.weight : Int) > ((ts.getD bb Tk.zero).weight : Int))))] fun a I => ?_
   refine qb kr ?_
   have I := I.sp 116 (.bool (decide (be < 0 ∨ (ts.getD bb Tk.zero).weight < t.weight))) rfl (congrArg Value.bool (decide_eq_decide.2 om))
   exact ⟨I.sub kr, HM.pt 9 [0, 1, 2, 3, 4, 5, 6, 7, 8]⟩
  clear I HM; rintro a w15 ⟨I, HM⟩
  refine Jb I HM (Ji (fun hd116 => ?_) fun hd116 => ?_)
  ·
   refine (JT∘JR∘Jp 2∘Jd1∘Jj∘JR∘Jp 1∘JaK 1∘Jp 1∘Jd2∘Jq) fun a I HM => ?_
   exact ⟨_, om, n + 1, (n : Int), by omega, by rw [qcq hbe, show (Stm.sta (⟨cp, cr, gA, gc, gs, lA, lc, cl, uA, uc, cu, some ⟨gtA, 0, none⟩, tc, ts, sA, sc, rs⟩ : Stm)).ts.getD n Tk.zero = t from qx Tk.zero ht, if_pos (qr6 (x := (⟨cp, cr, gA, gc, gs, lA, lc, cl, uA, uc, cu, some ⟨gtA, 0, none⟩, tc, ts, sA, sc, rs⟩ : Stm)) hbb (hmay.trans (decide_eq_true hd103)) hd116)], rfl, I.sub kr, HM.pt 9 [1, 2, 3, 4, 5, 6, 7, 8]⟩
  refine (JF∘JS'∘JR∘Jp 1∘JaK 1∘Jp 1∘Jd2∘Jq) fun a I HM => ?_
  exact ⟨_, om, n + 1, be, by omega, by rw [qcq hbe, show (Stm.sta (⟨cp, cr, gA, gc, gs, lA, lc, cl, uA, uc, cu, some ⟨gtA, 0, none⟩, tc, ts, sA, sc, rs⟩ : Stm)).ts.getD n Tk.zero = t from qx Tk.zero ht, if_neg (qr7 (x := (⟨cp, cr, gA, gc, gs, lA, lc, cl, uA, uc, cu, some ⟨gtA, 0, none⟩, tc, ts, sA, sc, rs⟩ : Stm)) hbb hd116)], rfl, I.sub kr, HM.pt 9 [1, 2, 3, 4, 5, 6, 7, 8]⟩
 intro a I HM
 have hd54 := of_decide_eq_false hb54
 have hnl : n = ts.length := by omega
 revert HM; revert a; repeat (first | clear I | clear HM)
 intro a I HM
 subst hnl
 have hbi := qb6 hbe
 refine Jb I HM ((JF∘JX∘JG∘JQ∘JP∘Jp 2∘Jd1∘Jj) (Ju (fun hb119 => ?_) fun hb119 => ?_))
 ·
  intro a I HM
  have hd119 := of_decide_eq_true hb119
  refine Jb I HM ((JT∘JP∘Jy (v := .agg #[vI cp, vQ cr, .slice gA ng gc, .slice lA nl lc, .slice uA nu uc, .slice tA nt tc, .slice sA ns sc]) (h:=by exact Yl.loadS rfl rfl si_st rfl (fun _ h => qa (h.blk (i := 2) rfl)))∘JV si_st O0') fun w18_1 => (Jp 2∘Jj∘JZ) fun a I HM => ?_)
  exact ret3 rfl I (.cellS (i := 0) I HM rfl rfl si_st rfl) (.tmp I rfl) (.tmp I rfl) (qj (y := (⟨cp, cr, gA, gc, gs, lA, lc, cl, uA, uc, cu, tA, tc, ts, sA, sc, rs⟩ : Stm)) 3 HM rfl hlns (qe7 (x := (⟨cp, cr, gA, gc, gs, lA, lc, cl, uA, uc, cu, tA, tc, ts, sA, sc, rs⟩ : Stm)) (decide_eq_true (by show 0 ≤ o.cpu ∧ o.cpu < cp; omega)) (by rw [hbe]; omega)))
 intro a I HM
 have hd119 := of_decide_eq_false hb119
 obtain ⟨k, hk⟩ : ∃ n : Nat, be = (n : Int) := ⟨be.toNat, by omega⟩
 revert HM; revert a; repeat (first | clear I | clear HM)
 intro a I HM
 subst hk
 revert HM; revert a; repeat (first | clear I | clear HM)
 intro a I HM
 obtain ⟨gtA, rfl⟩ := qe (HM.own (i := 6) rfl) (Nat.lt_of_le_of_lt (Nat.zero_le _) (show k < nt from (by omega : k < nt)))
 obtain ⟨t2, ht2⟩ : ∃ z, ts[k]? = some z := ⟨_, List.getElem?_eq_getElem om⟩
 refine Jb I HM ((JF∘JS'∘JP∘Jg 5 O2∘Jp 1∘Jy (h:=by exact Yl.ix0 gtA k 8 rfl rfl rfl)∘Jf 0∘Jy (v := vI t2.id) (h:=by exact Yl.qo rfl rfl kr (fun _ h => (by have := h.qq qd (i := 6) rfl (k := k) (off := 0) (x := t2) (ht2) rfl; simpa using this)))∘Jp 1∘Jd5∘Jr∘Jy (v := .agg #[vI cp, vQ cr, .slice gA ng gc, .slice lA nl lc, .slice uA nu uc, vS gtA nt tc, .slice sA ns sc]) (h:=by exact Yl.loadS rfl rfl si_st rfl (fun _ h => qa (h.blk (i := 2) rfl)))∘Jp 1∘Jf 1∘Jc O1∘Jo (vI c) (by rw [hcc])∘JL (h:=by exact fun HM => qfb 3 HM rfl hx k c t2 ht2 (by show ((c : Nat) : Int) < cp; omega))) ?_)
 rintro HM _ w131 ⟨y2, rfl, hy2, HM2⟩
 refine ⟨_, rfl, _, (show Mem W w131 (.blk g4 #[vI 0, vQ 0, vN, vN, vN, vN, vN] 45 :: .blk g3 o.cells 52 :: .blk g2 #[vI cp, vQ cr, .slice gA ng gc, .slice lA nl lc, .slice uA nu uc, vS gtA nt tc, .slice sA ns sc] 45 :: (stF y2 ++ (T))) from HM2), ?_⟩
 refine (Jp 1∘JV si_st O0' (h1:=by exact qz y2)) fun w20_6 => (Jp 2∘Jj∘JZ) fun a I HM => ?_
 exact ret3 rfl I (.cellS (i := 0) I HM rfl rfl si_st rfl) (.tmp I rfl) (.tmp I rfl) (qiv (y := y2) 3 HM rfl hy2 ((qe8 (x := (⟨cp, cr, gA, gc, gs, lA, lc, cl, uA, uc, cu, some ⟨gtA, 0, none⟩, tc, ts, sA, sc, rs⟩ : Stm)) (decide_eq_true (by show 0 ≤ o.cpu ∧ o.cpu < cp; omega)) hbe ht2).trans (by rw [hcc])))
theorem qwf {P : Program} {x : Code} {Q : Exit → Act → World → Prop} {a : Act} {w : World} (R : Act → World → Prop) (h : x.wp P (Exit.then R Q) a w) (k : ∀ a w, R a w → Q .normal a w) : x.wp P Q a w :=
 Code.wp_mono (fun e a w hq => by cases e <;> first | exact k _ _ hq | exact hq) h
theorem qot {x : Stm} {y : Stm} {o : Op30} {c : Nat} (hc : o.cpu = (c : Int)) (hk : o.kind = 6) (hy : y.sta = x.sta) (hok : x.sta.qb7 o.cpu = true) : (q3 y.sta c : Int) = (stepS x.sta o).2.1 ∧ (stepS x.sta o).2.2 = 0 ∧ (stepS x.sta o).1 = { x.sta with cu := x.sta.cu.set c (q3 y.sta c) } := by
 rw [quv hk, hy]
 unfold pickS
 rw [if_neg (nf hok), hc, Int.toNat_natCast]
 exact ⟨rfl, rfl, rfl⟩
theorem qi0 {s : Sta} {o : Op30} (hk : o.kind = 6) (hok : s.qb7 o.cpu = false) : doS s o = (s, 0, 300) := by
 have e : stepS s o = (s, 0, 300) := by
  rw [quv hk]
  unfold pickS
  rw [if_pos hok]
 rw [qgh (by rw [e]; show (300 : Nat) ≠ 0; decide), e]
theorem qwg (x : Stm) (o : Op30) (w : World) (hG : GoodS x.sta) (hr : StRd w x) (ho : o.Ok) :
    Calls Tryz.prog 28 #[.agg x.cells, .agg o.cells] w (DoRef w x (doS x.sta o)) := by
 have hxo := qal hG.sh
 have hfx := hxo.few
 refine (JN2 Tryz.func28 110) ?_
 refine (JP∘JE) fun w2 g2 => (JE) fun w3 g3 => (JA #[vI 0, vQ 0, vN, vN, vN, vN, vN]) fun w4 g4 => (Jp 2∘Jr∘Jy (v := .agg x.cells) (h:=by exact Yl.loadS rfl rfl si_st rfl (fun _ h => qa (h.blk (i := 2) rfl)))∘JL (h:=by exact fun HM => qbd x _ (hr.old HM) hfx)) ?_
 rintro HM _ w11 ⟨y, rfl, heq, hcap, hm⟩
 refine ⟨_, rfl, _, (show Mem w _ (.blk g4 #[vI 0, vQ 0, vN, vN, vN, vN, vN] 45 :: .blk g3 o.cells 52 :: .blk g2 x.cells 45 :: (stF y ++ ([]))) from by have h := HM.joinT hm; rw [← List.append_nil (stF y)] at h; exact h), ?_⟩
 refine (JA #[vI 0, vQ 0, vN, vN, vN, vN, vN]) fun w7 g7 => (JV si_st O0' (h1:=by exact qz y)) fun w1_3 => (Jd2∘Jq) fun a I HM => ?_
 have hyS : y.sta = x.sta := qf1 heq
 have hyG : GoodS y.sta := by rw [hyS]; exact hG
 have hyo := qal hyG.sh
 have hcur : ∀ c, c < y.cu.length → curOk y.sta c = true := (qk7 hyG.sh.sort).2 hyG.cur
 refine Jb I HM ((JG∘JP∘Jp 2∘Jj∘JQ∘JP∘Jg 0 O2∘Jj) fun a I HM => ?_)
 refine qwf (fun aS wS => ∃ (z : Stm), (z.sta = (stepS x.sta o).1) ∧ Fr aS 110 [] [(8, vI ((stepS x.sta o).2.1)), (9, vI ((stepS x.sta o).2.2)), (7, vP g7 0), (6, vI 0), (5, vI 0), (4, vP g4 0), (3, vP g3 0), (2, vP g2 0)] ∧ Mem w wS (.blk g7 z.cells 45 :: .blk g4 #[vI 0, vQ 0, vN, vN, vN, vN, vN] 45 :: .blk g3 o.cells 52 :: .blk g2 x.cells 45 :: (stF z ++ ([])))) ?_ ?_
 ·
  refine Jb I HM ((JB∘JP∘Jp 2∘Jd1∘Jj) (Je (fun hd14 => ?_) fun hd14 => ?_))
  ·
   refine (JT∘JR∘Jy (v := .agg y.cells) (h:=by exact Yl.loadS rfl rfl si_st rfl (fun _ h => qa (h.blk (i := 0) rfl)))∘Jy (v := .agg o.cells) (h:=by exact Yl.loadS rfl rfl si_op rfl (fun _ h => qa (h.blk (i := 2) rfl)))∘JL (h:=by exact fun HM => op_md (out := (stepS x.sta o)) (spec := qb9 y.sta o) 4 HM rfl ((qxd om).trans (by rw [hyS])) (fun T h => qos w _ y _ _ _ _ _ hyo T h o ho))) ?_
   rintro HM _ w19 ⟨z, rfl, hz, HM2⟩
   refine ⟨_, rfl, _, (show Mem w w19 (.blk g7 y.cells 45 :: .blk g4 #[vI 0, vQ 0, vN, vN, vN, vN, vN] 45 :: .blk g3 o.cells 52 :: .blk g2 x.cells 45 :: (stF z ++ ([]))) from HM2), ?_⟩
   refine (Jp 1∘Jx∘Jx∘Jx∘JV si_st O0' (h1:=by exact qz z)) fun w6_7 => (Jp 2∘Jq) fun a I HM => ?_
   exact ⟨z, hz, I.sub kr, HM.pt 4 [0, 1, 2, 3]⟩
  refine (JF∘JP∘Jp 2∘Jd1∘Jj) (Je (fun hd23 => ?_) fun hd23 => ?_)
  ·
   refine (JT∘JR∘Jy (v := .agg y.cells) (h:=by exact Yl.loadS rfl rfl si_st rfl (fun _ h => qa (h.blk (i := 0) rfl)))∘Jy (v := .agg o.cells) (h:=by exact Yl.loadS rfl rfl si_op rfl (fun _ h => qa (h.blk (i := 2) rfl)))∘JL (h:=by exact fun HM => op_md (out := (stepS x.sta o)) (spec := qca y.sta o) 4 HM rfl ((qxe om).trans (by rw [hyS])) (fun T h => qor w _ y _ _ _ _ _ hyo T h o ho))) ?_
   rintro HM _ w28 ⟨z, rfl, hz, HM2⟩
   refine ⟨_, rfl, _, (show Mem w w28 (.blk g7 y.cells 45 :: .blk g4 #[vI 0, vQ 0, vN, vN, vN, vN, vN] 45 :: .blk g3 o.cells 52 :: .blk g2 x.cells 45 :: (stF z ++ ([]))) from HM2), ?_⟩
   refine (Jp 1∘Jx∘Jx∘Jx∘JV si_st O0' (h1:=by exact qz z)) fun w8_7 => (Jp 2∘Jq) fun a I HM => ?_
   exact ⟨z, hz, I.sub kr, HM.pt 4 [0, 1, 2, 3]⟩
  refine (JF∘JQ∘JP∘Jp 2∘Jd1∘Jj) (Je (fun hd32 => ?_) fun hd32 => ?_)
  ·
   refine (JT∘JS'∘JT∘JR∘Jy (v := .agg y.cells) (h:=by exact Yl.loadS rfl rfl si_st rfl (fun _ h => qa (h.blk (i := 0) rfl)))∘Jy (v := .agg o.cells) (h:=by exact Yl.loadS rfl rfl si_op rfl (fun _ h => qa (h.blk (i := 2) rfl)))∘JL (h:=by exact fun HM => op_md (out := (stepS x.sta o)) (spec := qai y.sta o) 4 HM rfl ((qr0 om).trans (by rw [hyS])) (fun T h => qhr w _ y _ _ _ _ _ hyo T h o ho hcur))) ?_
   rintro HM _ w38 ⟨z, rfl, hz, HM2⟩
   refine ⟨_, rfl, _, (show Mem w w38 (.blk g7 y.cells 45 :: .blk g4 #[vI 0, vQ 0, vN, vN, vN, vN, vN] 45 :: .blk g3 o.cells 52 :: .blk g2 x.cells 45 :: (stF z ++ ([]))) from HM2), ?_⟩
   refine (Jp 1∘Jx∘Jx∘Jx∘JV si_st O0' (h1:=by exact qz z)) fun w11_7 => (Jp 2∘Jq) fun a I HM => ?_
   exact ⟨z, hz, I.sub kr, HM.pt 4 [0, 1, 2, 3]⟩
  refine (JF∘JR∘Jp 2∘Jd1∘Jj) (Je (fun hd32 => ?_) fun hd32 => ?_)
  ·
   refine (JT∘JR∘Jy (v := .agg y.cells) (h:=by exact Yl.loadS rfl rfl si_st rfl (fun _ h => qa (h.blk (i := 0) rfl)))∘Jy (v := .agg o.cells) (h:=by exact Yl.loadS rfl rfl si_op rfl (fun _ h => qa (h.blk (i := 2) rfl)))∘JL (h:=by exact fun HM => op_md (out := (stepS x.sta o)) (spec := qai y.sta o) 4 HM rfl ((qr0 om).trans (by rw [hyS])) (fun T h => qhr w _ y _ _ _ _ _ hyo T h o ho hcur))) ?_
   rintro HM _ w38 ⟨z, rfl, hz, HM2⟩
   refine ⟨_, rfl, _, (show Mem w w38 (.blk g7 y.cells 45 :: .blk g4 #[vI 0, vQ 0, vN, vN, vN, vN, vN] 45 :: .blk g3 o.cells 52 :: .blk g2 x.cells 45 :: (stF z ++ ([]))) from HM2), ?_⟩
   refine (Jp 1∘Jx∘Jx∘Jx∘JV si_st O0' (h1:=by exact qz z)) fun w11_7 => (Jp 2∘Jq) fun a I HM => ?_
   exact ⟨z, hz, I.sub kr, HM.pt 4 [0, 1, 2, 3]⟩
  refine (JF∘JP∘Jp 2∘Jd1∘Jj) (Je (fun hd42 => ?_) fun hd42 => ?_)
  ·
   refine (JT∘JR∘Jy (v := .agg y.cells) (h:=by exact Yl.loadS rfl rfl si_st rfl (fun _ h => qa (h.blk (i := 0) rfl)))∘Jy (v := .agg o.cells) (h:=by exact Yl.loadS rfl rfl si_op rfl (fun _ h => qa (h.blk (i := 2) rfl)))∘JL (h:=by exact fun HM => op_md (out := (stepS x.sta o)) (spec := tickS y.sta o) 4 HM rfl ((qxf om).trans (by rw [hyS])) (fun T h => qr5 w _ y _ _ _ _ _ hyo T h o ho hcur))) ?_
   rintro HM _ w47 ⟨z, rfl, hz, HM2⟩
   refine ⟨_, rfl, _, (show Mem w w47 (.blk g7 y.cells 45 :: .blk g4 #[vI 0, vQ 0, vN, vN, vN, vN, vN] 45 :: .blk g3 o.cells 52 :: .blk g2 x.cells 45 :: (stF z ++ ([]))) from HM2), ?_⟩
   refine (Jp 1∘Jx∘Jx∘Jx∘JV si_st O0' (h1:=by exact qz z)) fun w13_7 => (Jp 2∘Jq) fun a I HM => ?_
   exact ⟨z, hz, I.sub kr, HM.pt 4 [0, 1, 2, 3]⟩
  refine (JF∘JP∘Jp 2∘Jd1∘Jj) (Je (fun hd51 => ?_) fun hd51 => ?_)
  ·
   refine (JT∘JQ∘JP∘Jg 1 O2∘Jp 2) (Ji (fun hd56 => ?_) fun hd56 => ?_)
   ·
    refine (Jp 7∘Jd6∘Jj∘JT∘JP∘Jy (v := .agg x.cells) (h:=by exact Yl.loadS rfl rfl si_st rfl (fun _ h => qa (h.blk (i := 3) rfl)))∘JV si_st O1' (h1:=by exact qz x)) fun w16_1 => (Jp 2∘Jj∘JZ) fun a I HM => ?_
    exact ret3 rfl I (.cellS (i := 1) I HM rfl rfl si_st rfl) (.tmp I rfl) (.tmp I rfl) (⟨x, by rw [qi0 om (decide_eq_false (by show ¬ (0 ≤ o.cpu ∧ o.cpu < x.cpus); omega))]; rfl, by rw [qi0 om (decide_eq_false (by show ¬ (0 ≤ o.cpu ∧ o.cpu < x.cpus); omega))], .inl ⟨rfl, HM.below⟩⟩)
   refine (Jg 1 O2∘Jf 0∘Jg 0 O3∘Jp 2∘Jd6∘Jj) (Ju (fun hb63 => ?_) fun hb63 => ?_)
   ·
    intro a I HM
    have hd63 := of_decide_eq_true hb63
    refine Jb I HM ((JT∘JP∘Jy (v := .agg x.cells) (h:=by exact Yl.loadS rfl rfl si_st rfl (fun _ h => qa (h.blk (i := 3) rfl)))∘JV si_st O1' (h1:=by exact qz x)) fun w16_1 => (Jp 2∘Jj∘JZ) fun a I HM => ?_)
    exact ret3 rfl I (.cellS (i := 1) I HM rfl rfl si_st rfl) (.tmp I rfl) (.tmp I rfl) (⟨x, by rw [qi0 om (decide_eq_false (by show ¬ (0 ≤ o.cpu ∧ o.cpu < x.cpus); omega))]; rfl, by rw [qi0 om (decide_eq_false (by show ¬ (0 ≤ o.cpu ∧ o.cpu < x.cpus); omega))], .inl ⟨rfl, HM.below⟩⟩)
   intro a I HM
   have hd63 := of_decide_eq_false hb63
   obtain ⟨c, hcc⟩ : ∃ n : Nat, o.cpu = (n : Int) := ⟨o.cpu.toNat, by omega⟩
   have hccp : ((c : Nat) : Int) < x.sta.cpus := by show ((c : Nat) : Int) < x.cpus; omega
   have hcul : (y.cu.length : Int) = x.cpus := by have h := hyG.sh.cu; rw [hyS] at h; rw [show y.cu = y.sta.cu from rfl, hyS]; exact h
   have hcul2 : c < y.cu.length := by have h : ((c : Nat) : Int) < x.cpus := hccp; omega
   refine Jb I HM ((JF∘JS'∘JP∘Jy (v := .agg y.cells) (h:=by exact Yl.loadS rfl rfl si_st rfl (fun _ h => qa (h.blk (i := 0) rfl)))∘Jf 1∘Jc O2∘Jo (vI c) (by rw [hcc])∘JI (h:=by exact fun HM => qr4 (x := y) hyo (HM.stL 4 rfl) (by show ((c : Nat) : Int) < y.sta.cpus; rw [hyS]; exact hccp))) fun w68 hbw => (Jp 1∘Jd4∘Jq) fun a I HM => ?_)
   have hfy : (q3 y.sta c : Int) = (stepS x.sta o).2.1 ∧ (stepS x.sta o).2.2 = 0 ∧ (stepS x.sta o).1 = { x.sta with cu := x.sta.cu.set c (q3 y.sta c) } := qot hcc om hyS (decide_eq_true (by show 0 ≤ o.cpu ∧ o.cpu < x.cpus; omega))
   obtain ⟨fz, hfz⟩ : ∃ q : Int, (q3 y.sta c : Int) = q := ⟨_, rfl⟩
   rw [hfz] at hfy
   replace I := I.sp 8 (vI fz) rfl (by rw [hfz])
   have hyS2 := hyS
   obtain ⟨cp, cr, gA, gc, gs, lA, lc, cl, uA, uc, cu, tA, tc, ts, sA, sc, rs⟩ := y
   replace HM : Mem w _ (.blk g7 #[vI cp, vQ cr, .slice gA gs.length gc, .slice lA cl.length lc, .slice uA cu.length uc, .slice tA ts.length tc, .slice sA rs.length sc] 45 :: .blk g4 #[vI 0, vQ 0, vN, vN, vN, vN, vN] 45 :: .blk g3 o.cells 52 :: .blk g2 x.cells 45 :: fG gA gs.length gc gs :: fI lA cl.length lc cl :: fI uA cu.length uc cu :: fT tA ts.length tc ts :: fS sA rs.length sc rs :: (fR rs ++ ([]))) := HM
   replace hcul2 : c < cu.length := hcul2
   revert HM; revert a; repeat (first | clear I | clear HM)
   intro a I HM
   obtain ⟨guA, rfl⟩ := qe (HM.own (i := 6) rfl) om
   refine Jb I HM ((JG∘JR∘Jg 4 O0∘Jf 1∘Jc O2∘Jo (vI c) (by rw [hcc])∘Jp 1∘Jy (h:=by exact Yl.ix0 guA c 1 rfl rfl rfl)) fun a I HM => ?_)
   refine fo I 6 rfl rfl ?_
   refine qv I HM (i := 6) rfl rfl rfl rfl kr rfl rfl (by rw [List.length_map]; omega) fun w18_6 HM => ?_
   replace HM := HM.asRow (i := 6) (ys := (cu.set c fz).map I64i) rfl (qa6 I64i cu c fz om)
   refine Jb I HM ((Jt5∘Jq) fun a I HM => ?_)
   replace HM : Mem w _ (.blk g7 ((⟨cp, cr, gA, gc, gs, lA, lc, cl, some ⟨guA, 0, none⟩, uc, cu.set c fz, tA, tc, ts, sA, sc, rs⟩ : Stm).cells) 45 :: .blk g4 #[vI 0, vQ 0, vN, vN, vN, vN, vN] 45 :: .blk g3 o.cells 52 :: .blk g2 x.cells 45 :: (stF (⟨cp, cr, gA, gc, gs, lA, lc, cl, some ⟨guA, 0, none⟩, uc, cu.set c fz, tA, tc, ts, sA, sc, rs⟩ : Stm) ++ ([]))) := (by have h := HM; rw [← (show (cu.set c fz).length = cu.length from List.length_set ..)] at h; exact h)
   replace I := I.sp 8 (vI ((stepS x.sta o).2.1)) rfl (by rw [hfy.1])
   replace I := I.sp 9 (vI ((stepS x.sta o).2.2)) rfl (by rw [hfy.2.1]; rfl)
   exact ⟨(⟨cp, cr, gA, gc, gs, lA, lc, cl, some ⟨guA, 0, none⟩, uc, cu.set c fz, tA, tc, ts, sA, sc, rs⟩ : Stm), (congrArg (fun s : Sta => ({ s with cu := s.cu.set c fz } : Sta)) hyS2).trans hfy.2.2.symm, I.sub kr, HM.pt 4 [0, 1, 2, 3]⟩
  refine (JF∘JQ∘JP∘Jp 2∘Jd1∘Jj) (Je (fun hd75 => ?_) fun hd75 => ?_)
  ·
   refine (JT∘JS'∘JT∘JR∘Jy (v := .agg y.cells) (h:=by exact Yl.loadS rfl rfl si_st rfl (fun _ h => qa (h.blk (i := 0) rfl)))∘Jy (v := .agg o.cells) (h:=by exact Yl.loadS rfl rfl si_op rfl (fun _ h => qa (h.blk (i := 2) rfl)))∘JL (h:=by exact fun HM => op_md (out := (stepS x.sta o)) (spec := if o.kind = 8 then z8 y.sta o else zk y.sta o) 4 HM rfl ((qr1 om).trans (by rw [hyS])) (fun T h => qhs w _ y _ _ _ _ _ hyo T h o ho))) ?_
   rintro HM _ w81 ⟨z, rfl, hz, HM2⟩
   refine ⟨_, rfl, _, (show Mem w w81 (.blk g7 y.cells 45 :: .blk g4 #[vI 0, vQ 0, vN, vN, vN, vN, vN] 45 :: .blk g3 o.cells 52 :: .blk g2 x.cells 45 :: (stF z ++ ([]))) from HM2), ?_⟩
   refine (Jp 1∘Jx∘Jx∘Jx∘JV si_st O0' (h1:=by exact qz z)) fun w21_7 => (Jp 2∘Jq) fun a I HM => ?_
   exact ⟨z, hz, I.sub kr, HM.pt 4 [0, 1, 2, 3]⟩
  refine (JF∘JR∘Jp 2∘Jd1∘Jj) (Je (fun hd75 => ?_) fun hd75 => ?_)
  ·
   refine (JT∘JR∘Jy (v := .agg y.cells) (h:=by exact Yl.loadS rfl rfl si_st rfl (fun _ h => qa (h.blk (i := 0) rfl)))∘Jy (v := .agg o.cells) (h:=by exact Yl.loadS rfl rfl si_op rfl (fun _ h => qa (h.blk (i := 2) rfl)))∘JL (h:=by exact fun HM => op_md (out := (stepS x.sta o)) (spec := if o.kind = 8 then z8 y.sta o else zk y.sta o) 4 HM rfl ((qr1 om).trans (by rw [hyS])) (fun T h => qhs w _ y _ _ _ _ _ hyo T h o ho))) ?_
   rintro HM _ w81 ⟨z, rfl, hz, HM2⟩
   refine ⟨_, rfl, _, (show Mem w w81 (.blk g7 y.cells 45 :: .blk g4 #[vI 0, vQ 0, vN, vN, vN, vN, vN] 45 :: .blk g3 o.cells 52 :: .blk g2 x.cells 45 :: (stF z ++ ([]))) from HM2), ?_⟩
   refine (Jp 1∘Jx∘Jx∘Jx∘JV si_st O0' (h1:=by exact qz z)) fun w21_7 => (Jp 2∘Jq) fun a I HM => ?_
   exact ⟨z, hz, I.sub kr, HM.pt 4 [0, 1, 2, 3]⟩
  refine (JF∘JP∘Jp 2∘Jd1∘Jj) (Je (fun hd85 => ?_) fun hd85 => ?_)
  ·
   refine (JT∘JR∘Jy (v := .agg y.cells) (h:=by exact Yl.loadS rfl rfl si_st rfl (fun _ h => qa (h.blk (i := 0) rfl)))∘Jy (v := .agg o.cells) (h:=by exact Yl.loadS rfl rfl si_op rfl (fun _ h => qa (h.blk (i := 2) rfl)))∘JL (h:=by exact fun HM => op_md (out := (stepS x.sta o)) (spec := qad y.sta o) 4 HM rfl ((qxg om).trans (by rw [hyS])) (fun T h => qkh w _ y _ _ _ _ _ hyo T h o ho))) ?_
   rintro HM _ w90 ⟨z, rfl, hz, HM2⟩
   refine ⟨_, rfl, _, (show Mem w w90 (.blk g7 y.cells 45 :: .blk g4 #[vI 0, vQ 0, vN, vN, vN, vN, vN] 45 :: .blk g3 o.cells 52 :: .blk g2 x.cells 45 :: (stF z ++ ([]))) from HM2), ?_⟩
   refine (Jp 1∘Jx∘Jx∘Jx∘JV si_st O0' (h1:=by exact qz z)) fun w23_7 => (Jp 2∘Jq) fun a I HM => ?_
   exact ⟨z, hz, I.sub kr, HM.pt 4 [0, 1, 2, 3]⟩
  refine (JF∘JP∘Jp 2∘Jd1∘Jj) (Je (fun hd94 => ?_) fun hd94 => ?_)
  ·
   refine (JT∘JR∘Jy (v := .agg y.cells) (h:=by exact Yl.loadS rfl rfl si_st rfl (fun _ h => qa (h.blk (i := 0) rfl)))∘Jy (v := .agg o.cells) (h:=by exact Yl.loadS rfl rfl si_op rfl (fun _ h => qa (h.blk (i := 2) rfl)))∘JL (h:=by exact fun HM => op_md (out := (stepS x.sta o)) (spec := zu y.sta o) 4 HM rfl ((qwa om).trans (by rw [hyS])) (fun T h => qki w _ y _ _ _ _ _ hyo T h o ho hyG))) ?_
   rintro HM _ w99 ⟨z, rfl, hz, HM2⟩
   refine ⟨_, rfl, _, (show Mem w w99 (.blk g7 y.cells 45 :: .blk g4 #[vI 0, vQ 0, vN, vN, vN, vN, vN] 45 :: .blk g3 o.cells 52 :: .blk g2 x.cells 45 :: (stF z ++ ([]))) from HM2), ?_⟩
   refine (Jp 1∘Jx∘Jx∘Jx∘JV si_st O0' (h1:=by exact qz z)) fun w25_7 => (Jp 2∘Jq) fun a I HM => ?_
   exact ⟨z, hz, I.sub kr, HM.pt 4 [0, 1, 2, 3]⟩
  refine (JF∘JR∘Jp 1∘Jq) fun a I HM => ?_
  have hno : (stepS x.sta o) = (x.sta, 0, 2) := qwb om
  replace I := I.sp 8 (vI ((stepS x.sta o).2.1)) rfl (by rw [hno])
  replace I := I.sp 9 (vI ((stepS x.sta o).2.2)) rfl (by rw [hno]; try rfl)
  exact ⟨y, by rw [hno]; exact hyS, I.sub kr, HM.pt 4 [0, 1, 2, 3]⟩
 clear I HM; rintro a w_ ⟨z, hz, I, HM⟩
 refine Jb I HM ((JG∘JQ∘JP∘Jp 2∘Jd1∘Jj) (Ju (fun hb104 => ?_) fun hb104 => ?_))
 ·
  intro a I HM
  have hd104 := bne_iff_ne.1 hb104
  refine Jb I HM ((JT∘JP∘Jy (v := .agg x.cells) (h:=by exact Yl.loadS rfl rfl si_st rfl (fun _ h => qa (h.blk (i := 3) rfl)))∘Jp 1∘JV si_st O1' (h1:=by exact qz x)) fun w27_2 => (Jp 2∘Jj∘JZ) fun a I HM => ?_)
  exact ret3 rfl I (.cellS (i := 1) I HM rfl rfl si_st rfl) (.tmp I rfl) (.tmp I rfl) (⟨x, by rw [qgh (by omega : (stepS x.sta o).2.2 ≠ 0)], by rw [qgh (by omega : (stepS x.sta o).2.2 ≠ 0)], .inl ⟨rfl, HM.below⟩⟩)
 intro a I HM
 have hd104 := bne_eq_false_iff_eq.1 hb104
 have he0 : (stepS x.sta o).2.2 = 0 := by omega
 have hzG : GoodS z.sta := by rw [hz]; exact qgd ho hG he0
 have hzo := qal hzG.sh
 refine Jb I HM ((JF∘JS'∘JP∘Jy (v := .agg z.cells) (h:=by exact Yl.loadS rfl rfl si_st rfl (fun _ h => qa (h.blk (i := 0) rfl)))∘JL (h:=by exact fun HM => st_md 4 HM rfl (fun T h => qoq w _ z _ _ _ _ _ hzo T h))) ?_)
 rintro HM _ w108 ⟨y3, rfl, hy3, HM2⟩
 refine ⟨_, rfl, _, (show Mem w w108 (.blk g7 z.cells 45 :: .blk g4 #[vI 0, vQ 0, vN, vN, vN, vN, vN] 45 :: .blk g3 o.cells 52 :: .blk g2 x.cells 45 :: (stF y3 ++ ([]))) from HM2), ?_⟩
 refine (Jp 1∘JV si_st O1' (h1:=by exact qz y3)) fun w28_3 => (Jp 2∘Jj∘JZ) fun a I HM => ?_
 exact ret3 rfl I (.cellS (i := 1) I HM rfl rfl si_st rfl) (.tmp I rfl) (.tmp I rfl) (⟨y3, by rw [qim he0]; rfl, by rw [qim he0, hy3, hz], .inr (by have h := HM.dropN 4 rfl; rw [List.append_nil] at h; exact h)⟩)
section
variable {W w w' : World} {F A B T G : List Fact} {x y p : Stm} {gm : Nat} {s : Sta}
theorem Mem.inT (n : Nat) (he : F.drop n = A ++ (B ++ T)) : ∀ f ∈ T, f ∈ F := fun _ hf => List.mem_of_mem_drop (he ▸ List.mem_append_right _ (List.mem_append_right _ hf))
theorem qou (n : Nat) (h : Mem W w F) (he : F.drop n = A ++ (stF p ++ T)) (hj : (y = p ∧ Below w.heap.size w w') ∨ Mem w w' (stF y)) : Mem W w' (F.take n ++ (A ++ (stF y ++ T))) := by
 rcases hj with ⟨rfl, hb⟩ | hm
 ·have h1 := h.call hb
  rwa [← List.take_append_drop n F, he] at h1
 ·have h1 := h.joinG n hm he
  exact h1.subl (List.Sublist.append (List.Sublist.refl _) (List.Sublist.append (List.Sublist.refl _) (List.Sublist.append (List.Sublist.refl _) (List.sublist_append_right ..))))
theorem qt6 (hr : StRd w x) (hm : w.heap[gm]? = some (.cells #[vI x.cpus, vQ x.credit, .slice x.gA x.gs.length x.gc, .slice x.lA x.cl.length x.lc, .slice x.uA x.cu.length x.uc, .slice x.tA x.ts.length x.tc, .slice x.sA x.rs.length x.sc, .bool true] 56 (0, 0))) (hs : x.sta = s) (hG : GoodS s) (o : Int) : Calls Tryz.prog 15 #[vP gm 0, vI o] w (qcu w s.cpus o (q3 s o.toNat : Int)) := by
 subst hs
 have h := qal hG.sh
 exact qka x gm o w h.ok h.few h.sh hr hm
theorem qt7 (hr : StRd w x) (hm : w.heap[gm]? = some (.cells #[vI x.cpus, vQ x.credit, .slice x.gA x.gs.length x.gc, .slice x.lA x.cl.length x.lc, .slice x.uA x.cu.length x.uc, .slice x.tA x.ts.length x.tc, .slice x.sA x.rs.length x.sc, .bool true] 56 (0, 0))) (hs : x.sta = s) (hG : GoodS s) (o : Int) : Calls Tryz.prog 16 #[vP gm 0, vI o] w (qcu w s.cpus o (loadS s o.toNat)) := by
 subst hs
 have h := qal hG.sh
 exact qin x gm o w h.ok h.few h.sh hr hm
theorem qwh (hr : StRd w x) (hm : w.heap[gm]? = some (.cells #[vI x.cpus, vQ x.credit, .slice x.gA x.gs.length x.gc, .slice x.lA x.cl.length x.lc, .slice x.uA x.cu.length x.uc, .slice x.tA x.ts.length x.tc, .slice x.sA x.rs.length x.sc, .bool true] 56 (0, 0))) (hs : x.sta = s) (hG : GoodS s) : Calls Tryz.prog 14 #[vP gm 0] w (StaIs w s) := by
 subst hs
 have h := qal hG.sh
 exact (qj9 x gm w h.few hr hm).mono fun r w' ⟨y, h1, h2, h3, h4⟩ => ⟨y, h1, qf1 h2, h3, h4⟩
theorem rdo_s {o : Op30} (hr : StRd w p) (hp : p.sta = s) (hG : GoodS s) (ho : o.Ok) : Calls Tryz.prog 28 #[.agg p.cells, .agg o.cells] w (DoRef w p (doS s o)) := by
 subst hp
 exact qwg p o w hG hr ho
theorem qt8 (hr : StRd w p) (hp : p.sta = s) (hG : GoodS s) (c : Nat) (hc : (c : Int) < p.sta.cpus) : Calls Tryz.prog 62 #[.agg p.cells, vI c] w (Is w (vI (q3 s c : Int))) := by
 subst hp
 exact qhq p (qal hG.sh) c w hr hc
theorem qr9 (hr : StRd w p) (hp : p.sta = s) (hG : GoodS s) (c : Nat) : Calls Tryz.prog 63 #[.agg p.cells, vI c] w (Is w (vI (loadS s c))) := by
 subst hp
 exact qgo p (qal hG.sh) c w hr
def qt9 (W : World) (gm : Nat) (T : List Fact) (r : Ending) (w' : World) : Prop := r = .returned (.bool true) ∧ ∃ x p : Stm, Mem W w' (mdB gm x ++ (stF p ++ T))
end
theorem qua (w : World) (gm : Nat) (x p : Stm) (s : Sta) (cpu : Int) (hI : I64 cpu) (hx : x.sta = s) (hp : p.sta = s) (hG : GoodS s) (hxr : StRd w x) (hpr : StRd w p) (hm : w.heap[gm]? = some (.cells #[vI x.cpus, vQ x.credit, .slice x.gA x.gs.length x.gc, .slice x.lA x.cl.length x.lc, .slice x.uA x.cu.length x.uc, .slice x.tA x.ts.length x.tc, .slice x.sA x.rs.length x.sc, .bool true] 56 (0, 0))) :
    Calls Tryz.prog 25 #[vP gm 0, .agg p.cells, vI cpu] w (Is w (.bool true)) := by
 have hpc : p.cpus = s.cpus := congrArg Sta.cpus hp
 unfold I64 at hI
 have hcpb := hG.sh.cpus
 refine (JN3 Tryz.func25 78) ?_
 refine (JP∘JE) fun w4 g4 => (Jp 1∘Jr∘Jp 1∘JL (h:=by exact fun HM => qwh (hxr.old HM) (HM.oldBlk hm) hx hG)) ?_
 rintro HM _ w15 ⟨q, rfl, hq, hcap, hm2⟩
 refine ⟨_, rfl, _, (show Mem w _ (.blk g4 p.cells 45 :: (stF q ++ ([]))) from by have h := HM.joinT hm2; rw [← List.append_nil (stF q)] at h; exact h), ?_⟩
 refine (Jp 1∘Jx∘Jx∘JA #[vI 0, vQ 0, vN, vN, vN, vN, vN]) fun w7 g7 => (JV si_st O0' (h1:=by exact qz q)) fun w1_6 => (Jp 1∘Jj∘JQ∘JP∘Jv 3 [(20, .bool false)]∘Jy (v := .agg q.cells) (h:=by exact Yl.loadS rfl rfl si_st rfl (fun _ h => qa (h.blk (i := 0) rfl)))∘Jy (v := .agg p.cells) (h:=by exact Yl.loadS rfl rfl si_st rfl (fun _ h => qa (h.blk (i := 1) rfl)))∘JI (h:=by exact fun HM => qw9 (HM.st1 2 rfl) (hpr.old HM) hq hp hG)) fun w23 hbw => (Jp 2∘Jd6∘Jj∘JF∘JS'∘JP∘Jp 2∘JL (h:=by exact fun HM => qt6 (hxr.old HM) (HM.oldBlk hm) hx hG cpu)) ?_
 rintro HM _ w29 ⟨⟨a1, e1, rfl, hq1⟩, hbw⟩
 refine ⟨_, rfl, _, HM.call hbw, ?_⟩
 refine (Jp 1∘Jx∘Jx∘Jp 2∘Jr∘Jp 2∘JL (h:=by exact fun HM => qt7 (hxr.old HM) (HM.oldBlk hm) hx hG cpu)) ?_
 rintro HM _ w35 ⟨⟨a2, e2, rfl, hq2⟩, hbw⟩
 refine ⟨_, rfl, _, HM.call hbw, ?_⟩
 refine (Jp 1∘Jx∘Jx∘Jp 2∘Jj∘JQ∘JP∘Jp 3) (Ju (fun hb40 => ?_) fun hb40 => ?_)
 ·
  intro a I HM
  have hd40 := of_decide_eq_true hb40
  have hn1 := hq1
  have hn2 := hq2
  rw [if_neg (by rw [← hpc]; omega)] at hn1 hn2
  replace I := I.sp 9 (vI 0) rfl (by rw [hn1.1])
  replace I := I.sp 11 (vI 0) rfl (by rw [hn2.1])
  replace I := I.sp 10 (vI 300) rfl (by rw [hn1.2]; rfl)
  replace I := I.sp 12 (vI 300) rfl (by rw [hn2.2]; rfl)
  exact Jb I HM ((Jp 6∘Jd5∘Jj∘JT∘JP∘Jv 14 [(6, .bool true)]∘Jj∘JZ) JY1)
 intro a I HM
 have hd40 := of_decide_eq_false hb40
 refine Jb I HM ((Jp 1∘Jf 0∘Jg 0 O1∘Jp 2∘Jd6∘Jj) (Ju (fun hb46 => ?_) fun hb46 => ?_))
 ·
  intro a I HM
  have hd46 := of_decide_eq_true hb46
  have hn1 := hq1
  have hn2 := hq2
  rw [if_neg (by rw [← hpc]; omega)] at hn1 hn2
  replace I := I.sp 9 (vI 0) rfl (by rw [hn1.1])
  replace I := I.sp 11 (vI 0) rfl (by rw [hn2.1])
  replace I := I.sp 10 (vI 300) rfl (by rw [hn1.2]; rfl)
  replace I := I.sp 12 (vI 300) rfl (by rw [hn2.2]; rfl)
  exact Jb I HM ((JT∘JP∘Jv 14 [(6, .bool true)]∘Jj∘JZ) JY1)
 intro a I HM
 have hd46 := of_decide_eq_false hb46
 obtain ⟨c, hcc⟩ : ∃ c : Nat, cpu = (c : Int) := ⟨cpu.toNat, by omega⟩
 have hn1 := hq1
 have hn2 := hq2
 rw [if_pos (by rw [← hpc]; omega), hcc, Int.toNat_natCast] at hn1 hn2
 replace I := I.sp 9 (vI (q3 s c)) rfl (by rw [hn1.1])
 replace I := I.sp 11 (vI (loadS s c)) rfl (by rw [hn2.1])
 replace I := I.sp 10 (vI 0) rfl (by rw [hn1.2]; rfl)
 replace I := I.sp 12 (vI 0) rfl (by rw [hn2.2]; rfl)
 replace I := I.sp 2 (vI c) rfl (by rw [hcc])
 exact Jb I HM ((JF∘JS'∘JP∘Jv 6 [(65, vI (q3 s c)), (64, .bool true)]∘Jy (v := .agg p.cells) (h:=by exact Yl.loadS rfl rfl si_st rfl (fun _ h => qa (h.blk (i := 1) rfl)))∘Jp 1∘JI (h:=by exact fun HM => qt8 (hpr.old HM) hp hG c (by rw [hp]; omega))) fun w68 hbw => (Jp 1∘Jo (.bool true) (by simp)∘Jp 3∘Jy (v := .agg p.cells) (h:=by exact Yl.loadS rfl rfl si_st rfl (fun _ h => qa (h.blk (i := 1) rfl)))∘Jp 1∘JI (h:=by exact fun HM => qr9 (hpr.old HM) hp hG c)) fun w75 hbw => (Jp 1∘Jo (.bool true) (by simp)∘Jp 2∘Jd6∘Jj∘JZ) JY1)
theorem qwi {W w : World} {F T : List Fact} {gm : Nat} {x p : Stm} {s : Sta} (n : Nat) (HM : Mem W w F) (he : F.drop n = mdB gm x ++ (stF p ++ T)) (cpu : Int) (hI : I64 cpu) (hx : x.sta = s) (hp : p.sta = s) (hG : GoodS s) :
  Calls Tryz.prog 25 #[vP gm 0, .agg p.cells, vI cpu] w (Is w (.bool true)) := qua w gm x p s cpu hI hx hp hG (HM.mdRdB n he) (HM.st2 n he) (HM.mdBlkB n he)
theorem qov (W w : World) (gm : Nat) (x p : Stm) (s : Sta) (A : Option Addr) (lc : Nat) (l : List Op30) (hl : ∀ o ∈ l, o.Ok) (hln : l.length ≤ 9223372036854775807) (cpu : Int) (hI : I64 cpu) (hx : x.sta = s) (hp : p.sta = s) (hG : GoodS s) (T : List Fact) (hrd : ∀ (W' w' : World) (F : List Fact), Mem W' w' F → (∀ f ∈ T, f ∈ F) → Rd w' w'.heap.size 8 A l.length (l.flatMap opL)) (HM : Mem W w (mdB gm x ++ (stF p ++ T))) :
    Calls Tryz.prog 9 #[vP gm 0, .agg p.cells, .slice A l.length lc, vI cpu] w (qt9 W gm T) := by
 show Calls Tryz.prog 9 #[vP gm 0, .agg p.cells, .slice A l.length lc, vI cpu] w _
 refine (Jin4 HM Tryz.func9 50) ?_
 refine (JP∘JE) fun w5 g5 => (Jp 1∘Jj∘JQ∘JP∘Jp 1∘Jl∘Jp 1∘Jj∘JB) fun a I HM => ?_
 refine qi (fun mS aS wS => ∃ (k : Nat) (x : Stm) (p : Stm) (s : Sta), (k ≤ l.length) ∧ (x.sta = s) ∧ (p.sta = s) ∧ (GoodS s) ∧ mS = l.length - k ∧ Fr aS 50 [] [(18, vI k), (17, vI l.length), (16, .slice A l.length lc), (8, .bool false), (5, vP g5 0), (0, vP gm 0), (3, vI cpu)] ∧ Mem W wS (.blk g5 p.cells 45 :: (mdB gm x ++ (stF p ++ (T))))) (m := l.length - 0) ⟨0, x, p, s, Nat.zero_le _, hx, hp, hG, rfl, I.sub kr, HM.pt 1 [0]⟩ ?_
 clear I HM; rintro mS a w_ ⟨k, x, p, s, hk, hx, hp, hG, rfl, I, HM⟩
 refine Jb I HM ((JP∘Jp 1∘Jj∘JQ) (Ju (fun hb19 => ?_) fun hb19 => ?_))
 ·
  intro a I HM
  have hd19 := of_decide_eq_true hb19
  have hkl : k < l.length := by omega
  obtain ⟨o, ho⟩ : ∃ z, l.getD k Op30.zero = z := ⟨_, rfl⟩
  have hoo : o.Ok := by rw [← ho]; exact hl _ (qm Op30.zero hkl)
  have hG' := qmt hoo hG
  obtain ⟨go, oo, hgo, _⟩ := (hrd _ _ _ HM (Mem.inT 1 rfl)).qt (show 0 < l.length by omega) de
  replace I := I.sp 16 (.slice (some ⟨go, oo, none⟩) l.length lc) rfl (by rw [hgo])
  refine Jb I HM ((JT∘JS'∘JQ∘JB∘JP∘Jy (h:=by exact Yl.ix go oo k 8 rfl rfl rfl)∘Jy (v := .agg ((l.getD k Op30.zero).cells)) (h:=by exact Yl.loadS rfl rfl si_op rfl (fun _ h => ((hrd _ _ _ h (Mem.inT 1 rfl)).to hgo).q4 qlg ((getD_at Op30.zero hkl))))∘Jo (.agg o.cells) (by rw [ho])∘JA #[vB 0, vI 0, vI 0, vI 0, vI 0, vI 0, vI 0, vQ 0]) fun w10 g10 => (JV si_op O0' (h1:=by exact qum o)) fun w3_3 => (Jd2∘Jr∘Jy (v := .agg p.cells) (h:=by exact Yl.loadS rfl rfl si_st rfl (fun _ h => qa (h.blk (i := 1) rfl)))∘Jy (v := .agg o.cells) (h:=by exact Yl.loadS rfl rfl si_op rfl (fun _ h => qa (h.blk (i := 0) rfl)))∘JL (h:=by exact fun HM => rdo_s (HM.st2 2 rfl) hp hG hoo)) ?_)
  rintro HM _ w25 ⟨p2, rfl, hp2, hj⟩
  refine ⟨_, rfl, _, (show Mem W w25 (.blk g10 o.cells 52 :: .blk g5 p.cells 45 :: (mdB gm x ++ (stF p2 ++ (T)))) from qou (A := mdB gm x) (p := p) (T := T) 2 HM rfl hj), ?_⟩
  refine (Jp 1∘Jx∘Jx∘Jx∘JA #[vI 0, vQ 0, vN, vN, vN, vN, vN]) fun w11 g11 => (JV si_st O0' (h1:=by exact qz p2)) fun w4_8 => (Jp 2∘Jr∘Jp 1∘Jy (v := .agg o.cells) (h:=by exact Yl.loadS rfl rfl si_op rfl (fun _ h => qa (h.blk (i := 1) rfl)))∘JL (h:=by exact fun HM => do_s 3 HM rfl hx hG hoo)) ?_
  rintro HM _ w32 ⟨y, rfl, hy, HM2⟩
  refine ⟨_, rfl, _, (show Mem W w32 (.blk g11 p2.cells 45 :: .blk g10 o.cells 52 :: .blk g5 p.cells 45 :: (mdB gm y ++ (stF p2 ++ (T)))) from HM2.back), ?_⟩
  refine (Jp 1∘Jx∘Jx∘Jp 2∘Jj∘JQ∘JP∘Jp 3∘Jo (.bool false) (by simp)∘Jp 4∘Jo (.bool false) (by simp)∘Jp 1∘Jd6∘Jj∘JF∘JS'∘JP∘Jy (v := .agg p2.cells) (h:=by exact Yl.loadS rfl rfl si_st rfl (fun _ h => qa (h.blk (i := 0) rfl)))∘JV si_st O2' (h1:=by exact qz p2)) fun w8_1 => (Jt1∘Jr∘Jp 1∘Jy (v := .agg p2.cells) (h:=by exact Yl.loadS rfl rfl si_st rfl (fun _ h => qa (h.blk (i := 2) rfl)))∘Jp 1∘JI (h:=by exact fun HM => qwi 3 HM rfl cpu hI hy hp2 hG')) fun w47 hbw => (Jp 1∘Jd4∘Jj∘JF∘JS'∘JR∘JaK 1∘Jp 1∘Jd1∘Jq) fun a I HM => ?_
  replace I := I.sp 16 (.slice A l.length lc) rfl (by rw [hgo])
  exact ⟨_, om, k + 1, y, p2, (doS s o).1, by omega, hy, hp2, hG', rfl, I.sub kr, HM.pt 3 [2]⟩
 intro a I HM
 have hd19 := of_decide_eq_false hb19
 exact Jb I HM ((JF∘JX∘JG∘JP∘Jp 1∘Jj∘JZ∘Jz1) fun HM => by exact ⟨rfl, x, p, HM.dropN 1 rfl⟩)
theorem qsa {W w : World} {F T : List Fact} {gm : Nat} {x p : Stm} {s : Sta} {A : Option Addr} {lc : Nat} {l : List Op30} (n : Nat) (HM : Mem W w F) (he : F.drop n = mdB gm x ++ (stF p ++ T)) (hl : ∀ o ∈ l, o.Ok) (hln : l.length ≤ 9223372036854775807) (cpu : Int) (hI : I64 cpu) (hx : x.sta = s) (hp : p.sta = s) (hG : GoodS s) (hrd : ∀ (W' w' : World) (F' : List Fact), Mem W' w' F' → (∀ f ∈ F.take n ++ T, f ∈ F') → Rd w' w'.heap.size 8 A l.length (l.flatMap opL)) :
  Calls Tryz.prog 9 #[vP gm 0, .agg p.cells, .slice A l.length lc, vI cpu] w (fun r w' => r = .returned (.bool true) ∧ ∃ x p : Stm, Mem W w' (F.take n ++ (mdB gm x ++ (stF p ++ T)))) :=
 (qov W w gm x p s A lc l hl hln cpu hI hx hp hG (F.take n ++ T) hrd (HM.front2 n he)).mono fun r w' ⟨h1, x, p, h2⟩ => ⟨h1, x, p, h2.qxr⟩
theorem qxi {α : Type} (l : List α) (m : Nat) : Value.int .i64 (if ((m : Int) < (l.length : Int)) then (m : Int) else (l.length : Int)) = vI ((min l.length m : Nat) : Int) := by
 congr 1
 split <;> omega
theorem qlq (n : Nums) (hn : n.Ok) (A : Option Addr) (c_ : Nat) (l : List Sml) (hl : ∀ x ∈ l, x.Ok) (hc : l.length ≤ c_) (hnl : l.length ≤ 9223372036854775807) (O : Option Addr) (oc : Nat) (od : List Op30) (hod : ∀ o ∈ od, o.Ok) (hoc : od.length ≤ oc) (hon : od.length ≤ 9223372036854775807) (cpu : Int) (hI : I64 cpu) (w : World) (hr : Rd w w.heap.size 8 A l.length (l.flatMap sml)) (hro : Rd w w.heap.size 8 O od.length (od.flatMap opL)) :
    Calls Tryz.prog 3 #[.agg n.cells, .slice A l.length c_, .slice O od.length oc, vI cpu] w (Is w (.bool true)) := by
 have hsl := qq9 l 120
 have hcp0 : 1 ≤ n.cp ∧ n.cp ≤ 4 := by unfold Nums.cp; omega
 have hgs0 := (qh (Nums.right hn).1).1; have hgs1 := (qh (Nums.right hn).1).2.1
 obtain ⟨kk, hkk⟩ : ∃ z, min od.length 10 = z := ⟨_, rfl⟩
 have hqn : (q9 l 120 ++ od.take kk).length ≤ 9223372036854775807 := by rw [List.length_append, List.length_take]; omega
 have hql : ∀ o ∈ (q9 l 120 ++ od.take kk), o.Ok := fun o ho => (List.mem_append.1 ho).elim (qq3 hl o) (fun h => hod o (List.mem_of_mem_take h))
 refine (JN4 Tryz.func3 43) ?_
 refine (JP∘JE) fun w4 g4 => (Jp 1∘Jr∘Jy (v := .agg n.cells) (h:=by exact Yl.loadS rfl rfl qv1 (qra hn) (fun _ h => qa (h.blk (i := 0) rfl)))∘JK (h:=by exact fun HM => qn9 n hn _)) fun A14 c14 w14 hc14 => (JA #[vI 0, vQ 0, vN]) fun w9 g9 => (JV qbj O0') fun w1_3 => (Jd2∘Jr∘Jy (v := .agg #[vI n.cp, vQ n.credit, .slice A14 n.gs.length c14]) (h:=by exact Yl.loadS rfl rfl qbj rfl (fun _ h => qa (h.blk (i := 0) rfl)))∘JL (h:=by exact fun HM => qq7 (Nums.cfg hn) (HM.rd (i := 1) rfl))) ?_
 rintro HM _ w17 ⟨gm, x, rfl, hx, hm⟩
 refine ⟨_, rfl, _, (show Mem w w17 (.blk g9 #[vI n.cp, vQ n.credit, .slice A14 n.gs.length c14] 33 :: .row (.slice A14 n.gs.length c14) n.gs.length (n.gs.flatMap grL) 50 2 :: .blk g4 n.cells 27 :: (mdB gm x ++ ([]))) from HM.joinF 3 hm rfl), ?_⟩
 refine (Jp 1∘Jx∘Jx∘Jp 2∘Jj∘JQ∘JP∘Jv 4 [(23, vP gm 0), (22, .bool false)]∘Jy (v := .bool false) (h:=by exact Yl.qht rfl rfl rfl)∘Jp 1∘Jd4∘Jj∘JF∘JS') fun a I HM => ?_
 refine wp_seq ?_
 refine Jb I HM ((Vs .n []) fun wd5 => (Vp [0, 2, 3]∘Vl 4∘Vy 5 (v := vI (if (10 : Int) < (od.length : Int) then 10 else (od.length : Int))) (h:=by exact Yl.min rfl rfl rfl)∘Vo (vI kk) (by rw [← hkk]; exact qxi od 10)∘Vy 6 (h:=by exact Yl.qbe ei_op (j := kk) rfl rfl rfl om)∘VK 1 .n (h:=by exact fun HM => qoa A c_ l 120 _ hl (HM.old hr) hc hnl de)) fun A27 c27 w27 hc27 => fun a I HM HS => ?_)
 refine s_on I 7 rfl (ze I HM (i := 0) rfl ei_op rfl rfl rfl (news := ((od.take kk).flatMap opL)) (Rd.qsd qlg (HM.old hro) om) (qlh _) om om rfl de ?_)
 clear I HM; intro a w33 A33 c33 I HM hc33
 refine keepS (HM.pt 4 [1, 2, 3]) (fun HS => ?_)
 refine Vb I HM HS ((Vp [8]∘Vd∘Jd6) fun a I HM => ?_)
 replace HM : Mem w _ (.row (.slice A33 (((q9 l 120).length) + kk) c33) (((q9 l 120).length) + kk) (((q9 l 120).flatMap opL) ++ ((od.take kk).flatMap opL)) 52 8 :: .blk g9 #[vI n.cp, vQ n.credit, .slice A14 n.gs.length c14] 33 :: .row (.slice A14 n.gs.length c14) n.gs.length (n.gs.flatMap grL) 50 2 :: .blk g4 n.cells 27 :: (mdB gm x ++ ([]))) := HM
 have hn33 : ((q9 l 120).length) + kk = (q9 l 120 ++ od.take kk).length := by rw [List.length_append, List.length_take, Nat.min_eq_left om]
 replace HM := HM.reRow (i := 0) (ys := (q9 l 120 ++ od.take kk).flatMap opL) rfl hn33 (List.flatMap_append.symm)
 replace I := I.sp 12 (.slice A33 ((q9 l 120 ++ od.take kk).length) c33) rfl (by rw [hn33])
 refine Jb I HM ((JP∘Jp 1∘Jy (v := .agg #[vI n.cp, vQ n.credit, .slice A14 n.gs.length c14]) (h:=by exact Yl.loadS rfl rfl qbj rfl (fun _ h => qa (h.blk (i := 1) rfl)))∘JL (h:=by exact fun HM => qt1 n.cp n.credit A14 c14 n.gs _ ⟨by omega, by omega⟩ ⟨by omega, by omega⟩ (HM.rd (i := 2) rfl))) ?_)
 rintro HM _ w36 ⟨p, rfl, hp, hm⟩
 refine ⟨_, rfl, _, (show Mem w w36 (.row (.slice A33 ((q9 l 120 ++ od.take kk).length) c33) ((q9 l 120 ++ od.take kk).length) ((q9 l 120 ++ od.take kk).flatMap opL) 52 8 :: .blk g9 #[vI n.cp, vQ n.credit, .slice A14 n.gs.length c14] 33 :: .row (.slice A14 n.gs.length c14) n.gs.length (n.gs.flatMap grL) 50 2 :: .blk g4 n.cells 27 :: (stF p ++ (mdB gm x ++ ([])))) from HM.joinF (T := (mdB gm x ++ ([]))) 4 hm rfl), ?_⟩
 refine (Jp 2∘JL (h:=by exact fun HM => qsa 4 (show Mem w w36 (.row (.slice A33 ((q9 l 120 ++ od.take kk).length) c33) ((q9 l 120 ++ od.take kk).length) ((q9 l 120 ++ od.take kk).flatMap opL) 52 8 :: .blk g9 #[vI n.cp, vQ n.credit, .slice A14 n.gs.length c14] 33 :: .row (.slice A14 n.gs.length c14) n.gs.length (n.gs.flatMap grL) 50 2 :: .blk g4 n.cells 27 :: (mdB gm x ++ (stF p ++ ([])))) from Mem.swapT (A := stF p) (B := mdB gm x) 4 HM rfl) rfl hql hqn cpu hI hx hp (Nums.good hn).1 (fun _ _ _ h hf => h.rdMem (hf _ (List.mem_append_left _ (List.mem_of_getElem? (i := 0) rfl)))))) ?_
 rintro HM _ w39 ⟨rfl, x3, p3, HM2⟩
 refine ⟨_, rfl, _, (show Mem w w39 (.row (.slice A33 ((q9 l 120 ++ od.take kk).length) c33) ((q9 l 120 ++ od.take kk).length) ((q9 l 120 ++ od.take kk).flatMap opL) 52 8 :: .blk g9 #[vI n.cp, vQ n.credit, .slice A14 n.gs.length c14] 33 :: .row (.slice A14 n.gs.length c14) n.gs.length (n.gs.flatMap grL) 50 2 :: .blk g4 n.cells 27 :: (mdB gm x3 ++ (stF p3 ++ ([])))) from HM2), ?_⟩
 exact (Jp 1∘JI (h:=by exact fun HM => qlk _)) fun w41 hbw => (Jp 2∘Jd6∘Jj∘JZ) JY1
end Go.Proofs.YtannicghedpdpaaGreat
