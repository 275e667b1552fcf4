/- Parts. -/
import Derived.Test.YtannicghedpdpaaGreatQtChv
import Derived.Test.YtannicghedpdpaaGreatQtZ1
set_option linter.all false
set_option maxRecDepth 100000
set_option maxHeartbeats 1000000
namespace Go.Proofs.YtannicghedpdpaaGreat
open Go.RowKit
theorem qeu (x e : En) (hx : x.Ok) (d : Nat) (hd : d ≤ 4294967295) (he : x.add d = e) (w : World) : Calls Tryz.prog 92 #[.agg x.cells, vI d] w (Is w (.tuple #[.agg e.cells, vI 0])) := he ▸ qsy x hx d hd w
theorem qmk {W w : World} {F T : List Fact} {x : Stm} {ng nl nu nt ns gm : Nat} (n : Nat) (HM : Mem W w F) (he : F.drop n = mdA gm x ng nl nu nt ns ++ T) (hx : MdOk x ng nl nu nt ns) (id : Int) (k : Nat) (hk : fidx x.ts id = (k : Int)) : Calls Tryz.prog 50 #[vP gm 0, vI id] w (Is w (vI k)) := hk ▸ qea n HM he hx id
theorem qtd {x : Stm} {ng nl nu nt ns c : Nat} (h : MdOk x ng nl nu nt ns) (v : Int) (hv : 0 ≤ v ∧ v ≤ 281474976710656) : MdOk ({ x with cl := x.cl.set c v } : Stm) ng nl nu nt ns := by
 refine ⟨⟨h.ok.cpus, h.ok.credit, h.ok.gs, fun z hz => ?_, h.ok.cu, h.ok.ts, h.ok.sp⟩, ⟨h.few.g, by show (x.cl.set c v).length ≤ _; rw [List.length_set]; exact h.few.l, h.few.u, h.few.t, h.few.s, h.few.r⟩, ⟨h.sh.cfg, by show ((x.cl.set c v).length : Int) = _; rw [List.length_set]; exact h.sh.cl, h.sh.cu, h.sh.rs, fun d hd => ?_, h.sh.row, h.sh.tk⟩, ⟨h.ln.g, by show (x.cl.set c v).length = _; rw [List.length_set]; exact h.ln.l, h.ln.u, h.ln.t, h.ln.s⟩⟩
 ·rcases List.mem_or_eq_of_mem_set hz with h1 | rfl
  ·exact h.ok.cl z h1
  ·unfold I64; omega
 ·have hd' : d < (x.cl.set c v).length := hd
  show clOk ((x.cl.set c v).getD d 0) = true
  rw [List.length_set] at hd'
  by_cases e : c = d
  ·subst e
   rw [qg _ _ hd']
   unfold clOk
   rw [decide_eq_true hv]
  ·rw [getD_set_ne _ _ e]
   exact h.sh.cls d hd'
theorem qef {x : Stm} {c : Nat} (h : curOk x.sta c = true) (h0 : x.cu.getD c 0 ≠ 0) : ∃ (k : Nat) (t : Tk), fidx x.ts (x.cu.getD c 0) = (k : Int) ∧ x.ts[k]? = some t ∧ k < x.ts.length ∧ t.id = x.cu.getD c 0 := by
 refine qco fun hf => ?_
 rw [qm9 h0 (qvf hf)] at h
 cases h
theorem qnu (W w : World) (x : Stm) (gm : Nat) (ng nl nu nt ns : Nat) (hx : MdOk x ng nl nu nt ns) (o : Op30) (ho : o.Ok) (T : List Fact) (HM : Mem W w (mdA gm x ng nl nu nt ns ++ T)) (hcur : ∀ c, c < x.cu.length → curOk x.sta c = true) :
    Calls Tryz.prog 34 #[vP gm 0, .agg o.cells] w (OpIs W gm T (tickS x.sta o)) := by
 obtain ⟨cp, cr, gA, gc, gs, lA, lc, cl, uA, uc, cu, tA, tc, ts, sA, sc, rs⟩ := x
 replace HM : Mem W w (fM gm cp cr gA ng gc lA nl lc uA nu uc tA nt tc sA ns sc :: fG gA ng gc gs :: fI lA nl lc cl :: fI uA nu uc cu :: fT tA nt tc ts :: fS sA ns sc rs :: (fR rs ++ (T))) := HM
 obtain ⟨hlg, hll, hlu, hlt, hls⟩ := hx.ln
 replace hlg : gs.length = ng := hlg; replace hll : cl.length = nl := hll; replace hlu : cu.length = nu := hlu; replace hlt : ts.length = nt := hlt; replace hls : rs.length = ns := hls
 have hlns := hx.ln
 have hsp : SpsOk gs cp rs := hx.spots
 have hrg : rs.length = gs.length := hx.sh.rs
 have hcr : cr < 18446744073709551616 := hx.ok.credit
 obtain ⟨hcp1, hcp2, _, hgs⟩ := zf hx.sh.cfg
 replace hcp1 : 1 ≤ cp := hcp1; replace hcp2 : cp ≤ 64 := hcp2; replace hgs : gsOk gs = true := hgs
 have hgl1 := (qh hgs).1; have hgl2 := (qh hgs).2.1
 have hcll : (cl.length : Int) = cp := hx.sh.cl; have hcul : (cu.length : Int) = cp := hx.sh.cu
 have hfts : ts.length ≤ 1000000 := hx.few.t
 have hoc := ho.cpu; have hot := ho.task; have hog := ho.group; have how := ho.weight; have hoto := ho.to; have hotk := ho.ticks; have hom := ho.mask; have hok8 := ho.kind; unfold I64 at hoc hot hog how hoto hotk
 have hcuo := hx.ok.cu; have hclo := hx.ok.cl
 have hcls := hx.sh.cls
 obtain ⟨ggA, rfl⟩ := qe (HM.own (i := 1) rfl) om
 obtain ⟨glA, rfl⟩ := qe (HM.own (i := 2) rfl) om
 obtain ⟨guA, rfl⟩ := qe (HM.own (i := 3) rfl) om
 obtain ⟨gsA, rfl⟩ := qe (HM.own (i := 5) rfl) om
 refine (Jin2 HM Tryz.func34 158) ?_
 refine (JP∘JE) fun w3 g3 => (Jp 2∘Jr∘Jp 1∘Jn∘Jf 0∘Jp 1∘Jd3∘Jj∘JQ∘JB∘JP∘Jp 1∘Jg 1 O0∘JI (h:=by exact fun HM => qhb 1 HM rfl hx o.cpu)) fun w22 hbw => (Jp 2∘Jd4∘Jj) (Ju (fun hb18 => ?_) fun hb18 => ?_)
 ·
  intro a I HM
  have hd18 := of_decide_eq_false ((Bool.not_eq_true' _).mp hb18)
  exact Jb I HM ((JT∘JP∘Jp 2∘Jj∘JZ∘Jz2) fun HM => by exact qs (y := (⟨cp, cr, some ⟨ggA, 0, none⟩, gc, gs, some ⟨glA, 0, none⟩, lc, cl, some ⟨guA, 0, none⟩, uc, cu, tA, tc, ts, some ⟨gsA, 0, none⟩, sc, rs⟩ : Stm)) 1 HM rfl hlns (if_pos (decide_eq_false hd18)))
 intro a I HM
 have hd18 := of_decide_eq_true ((Bool.not_eq_false' _).mp hb18)
 replace hd18 : 0 ≤ o.cpu ∧ o.cpu < cp := hd18
 obtain ⟨c, hcc⟩ : ∃ n : Nat, o.cpu = (n : Int) := ⟨o.cpu.toNat, by omega⟩
 have hccp : ((c : Nat) : Int) < cp := by omega
 have hclb := hcls c (by show c < cl.length; omega); replace hclb : 0 ≤ (cl.getD c 0) ∧ (cl.getD c 0) ≤ 281474976710656 := by unfold clOk at hclb; simpa using hclb
 obtain ⟨v, hv⟩ : ∃ z, (cl.getD c 0) = z := ⟨_, rfl⟩
 rw [hv] at hclb
 refine Jb I HM ((JF∘JP∘Jg 6 O0∘Jp 2) (Ji (fun hd28 => ?_) fun hd28 => ?_))
 ·
  exact (Jp 5∘Jd6∘Jj∘JT∘JP∘Jp 2∘Jj∘JZ∘Jz2) fun HM => by exact qs (y := (⟨cp, cr, some ⟨ggA, 0, none⟩, gc, gs, some ⟨glA, 0, none⟩, lc, cl, some ⟨guA, 0, none⟩, uc, cu, tA, tc, ts, some ⟨gsA, 0, none⟩, sc, rs⟩ : Stm)) 1 HM rfl hlns ((if_neg (nf (decide_eq_true hd18))).trans (if_pos om))
 refine (Jg 6 O0∘Jp 3∘Jd6∘Jj) (Ju (fun hb24 => ?_) fun hb24 => ?_)
 ·
  intro a I HM
  have hd24 := of_decide_eq_true hb24
  exact Jb I HM ((JT∘JP∘Jp 2∘Jj∘JZ∘Jz2) fun HM => by exact qs (y := (⟨cp, cr, some ⟨ggA, 0, none⟩, gc, gs, some ⟨glA, 0, none⟩, lc, cl, some ⟨guA, 0, none⟩, uc, cu, tA, tc, ts, some ⟨gsA, 0, none⟩, sc, rs⟩ : Stm)) 1 HM rfl hlns ((if_neg (nf (decide_eq_true hd18))).trans (if_pos om)))
 intro a I HM
 have hd24 := of_decide_eq_false hb24
 have htk : 1 ≤ o.ticks ∧ o.ticks ≤ 4294967295 := by omega
 obtain ⟨d, hod⟩ : ∃ n : Nat, o.ticks = (n : Int) := ⟨o.ticks.toNat, by omega⟩
 have hd0 : d ≤ 4294967295 := by omega
 refine Jb I HM ((JF) fun a I HM => ?_)
 refine wp_seq ?_
 refine Jb I HM ((Vs .n []) fun wd6 => (Vp [0]∘Vf 4 1∘Vf 8 6∘Vn 1∘Vf 2 3∘Vc 3 O1∘Vc 5 O0∘Vo (vI c) (by rw [hcc])∘Vy 6 (h:=by exact Yl.ix0 glA c 1 rfl rfl rfl)∘Vy 7 (v := vI (cl.getD c 0)) (h:=by exact Yl.r1 3 c 0 om rfl rfl rfl)∘Vo (vI v) (by rw [hv])∘Vc 9 O0∘Vo (vI d) (by rw [hod])∘Vp [10]∘Vo (vI (v + d)) (by exact qcj ⟨by omega, by omega⟩)∘Vp [11, 12]∘Vd∘Jd6) (Ju (fun hb33 => ?_) fun hb33 => ?_))
 ·
  intro a I HM
  have hd33 := of_decide_eq_true hb33
  exact Jb I HM ((JT∘JP∘Jp 2∘Jj∘JZ∘Jz2) fun HM => by exact qs (y := (⟨cp, cr, some ⟨ggA, 0, none⟩, gc, gs, some ⟨glA, 0, none⟩, lc, cl, some ⟨guA, 0, none⟩, uc, cu, tA, tc, ts, some ⟨gsA, 0, none⟩, sc, rs⟩ : Stm)) 1 HM rfl hlns ((if_neg (nf (decide_eq_true hd18))).trans ((if_neg om).trans (if_pos (by show 281474976710656 < cl.getD o.cpu.toNat 0 + o.ticks; rw [hcc, Int.toNat_natCast, hv]; omega)))))
 intro a I HM
 have hd33 := of_decide_eq_false hb33
 obtain ⟨id, hid⟩ : ∃ z, cu.getD c 0 = z := ⟨_, rfl⟩
 have hxk := qtd (x := (⟨cp, cr, some ⟨ggA, 0, none⟩, gc, gs, some ⟨glA, 0, none⟩, lc, cl, some ⟨guA, 0, none⟩, uc, cu, tA, tc, ts, some ⟨gsA, 0, none⟩, sc, rs⟩ : Stm)) (c := c) hx (v + d) ⟨by omega, by omega⟩
 have hidI : I64 id := by rw [← hid]; exact hcuo _ (qm 0 (by show c < cu.length; omega))
 unfold I64 at hidI
 refine Jb I HM ((JF∘JS') fun a I HM => ?_)
 refine wp_seq ?_
 refine Jb I HM ((Vs .n [12]) fun wd8 => (Vp [0]∘Vf 4 1∘Vf 8 6∘Vn 1∘Vf 2 3∘Vc 3 O1∘Vc 5 O0∘Vo (vI c) (by rw [hcc])∘Vy 6 (h:=by exact Yl.ix0 glA c 1 rfl rfl rfl)∘Vy 7 (v := vI (cl.getD c 0)) (h:=by exact Yl.r1 3 c 0 om rfl rfl rfl)∘Vo (vI v) (by rw [hv])∘Vc 9 O0∘Vo (vI d) (by rw [hod])∘Vp [10]∘Vo (vI (v + d)) (by exact qcj ⟨by omega, by omega⟩)∘Vy 11 (h:=by exact Yl.ix0 glA c 1 rfl rfl rfl)) fun a I HM HS => ?_)
 refine s_on I 12 rfl ?_
 refine qv I HM (i := 3) rfl rfl rfl rfl kr rfl rfl (by rw [List.length_map]; omega) fun w8_12 HM => ?_
 replace HM := HM.asRow (i := 3) (ys := (cl.set c (v + d)).map I64i) rfl (qa6 I64i cl c (v + d) om)
 refine noS kr ?_
 refine qb kr ?_
 refine wp_seq ?_
 refine Jb I HM ((Vs .n []) fun wd9 => (Vp [0]∘Vf 4 1∘Vn 1∘Vf 2 4∘Vc 3 O1∘Vc 5 O0∘Vo (vI c) (by rw [hcc])∘Vy 6 (h:=by exact Yl.ix0 guA c 1 rfl rfl rfl)∘Vy 7 (v := vI (cu.getD c 0)) (h:=by exact Yl.r1 4 c 0 om rfl rfl rfl)∘Vo (vI id) (by rw [hid])∘Vp [8]∘Vd∘Jd6∘JQ∘JP∘Jp 2∘Jd1∘Jj) (Ju (fun hb67 => ?_) fun hb67 => ?_))
 ·
  intro a I HM
  have hd67 := eq_of_beq hb67
  exact Jb I HM ((JT∘JP∘Jp 2∘Jj∘JZ∘Jz2) fun HM => by exact qs (y := (⟨cp, cr, some ⟨ggA, 0, none⟩, gc, gs, some ⟨glA, 0, none⟩, lc, (cl.set c (v + d)), some ⟨guA, 0, none⟩, uc, cu, tA, tc, ts, some ⟨gsA, 0, none⟩, sc, rs⟩ : Stm)) 1 HM rfl ⟨hlns.g, by show (cl.set _ _).length = nl; rw [List.length_set]; exact hll, hlns.u, hlns.t, hlns.s⟩ ((qjt (x := (⟨cp, cr, some ⟨ggA, 0, none⟩, gc, gs, some ⟨glA, 0, none⟩, lc, cl, some ⟨guA, 0, none⟩, uc, cu, tA, tc, ts, some ⟨gsA, 0, none⟩, sc, rs⟩ : Stm)) (decide_eq_true hd18) htk hcc hv om (hid.trans om)).trans (by rw [hod])))
 intro a I HM
 have hd67 := ne_of_beq_false hb67
 have hid0 : id ≠ 0 := by omega
 have hcuk := qef (x := (⟨cp, cr, some ⟨ggA, 0, none⟩, gc, gs, some ⟨glA, 0, none⟩, lc, cl, some ⟨guA, 0, none⟩, uc, cu, tA, tc, ts, some ⟨gsA, 0, none⟩, sc, rs⟩ : Stm)) (hcur c (by show c < cu.length; omega)) (by show cu.getD c 0 ≠ 0; rw [hid]; exact hid0)
 rw [show (⟨cp, cr, some ⟨ggA, 0, none⟩, gc, gs, some ⟨glA, 0, none⟩, lc, cl, some ⟨guA, 0, none⟩, uc, cu, tA, tc, ts, some ⟨gsA, 0, none⟩, sc, rs⟩ : Stm).cu.getD c 0 = id from hid] at hcuk
 obtain ⟨k, t, hk, ht, hkl, hkid⟩ := hcuk
 replace hk : fidx ts id = (k : Int) := hk; replace ht : ts[k]? = some t := ht; replace hkl : k < ts.length := hkl
 obtain ⟨htg, hto⟩ := hx.task ht
 have hti := htg.id; have htgr := htg.group; have htc := htg.cpu; have htw := htg.weight; have htv := hto.v; have htr := hto.r; have htm := hto.mask
 replace htc : 0 ≤ t.cpu ∧ t.cpu < cp := htc
 obtain ⟨gt, hgt⟩ : ∃ n : Nat, t.group = (n : Int) := ⟨t.group.toNat, by omega⟩
 obtain ⟨ct, hct⟩ : ∃ n : Nat, t.cpu = (n : Int) := ⟨t.cpu.toNat, by omega⟩
 obtain ⟨wt, hwt⟩ : ∃ n : Nat, t.weight = (n : Int) := ⟨t.weight.toNat, by omega⟩
 have hEo : (⟨t.v, t.r, wt⟩ : En).Ok := En.qda htg.ent hwt htv
 obtain ⟨e, hew⟩ : ∃ e, (⟨t.v, t.r, wt⟩ : En).add d = e := ⟨_, rfl⟩
 have heo : e.Ok ∧ e.w = wt := by rw [← hew]; exact En.qhu hEo d
 revert HM; revert a; repeat (first | clear I | clear HM)
 intro a I HM
 obtain ⟨gtA, rfl⟩ := qe (HM.own (i := 5) rfl) (Nat.lt_of_le_of_lt (Nat.zero_le _) (show k < nt from (by omega : k < nt)))
 refine Jb I HM ((JF∘JS') fun a I HM => ?_)
 refine wp_seq ?_
 refine Jb I HM ((Vs .n []) fun wd12 => (Vp [0, 4, 5]∘Vn 1∘Vf 2 5∘Vc 3 O1∘VI 6 .n (h:=by exact fun HM => qmk 1 HM rfl hxk id k hk)) fun w74 hbw => (Vy 7 (h:=by exact Yl.ix0 gtA k 8 rfl rfl rfl)∘Vp [8]∘Vd∘Jd6) fun a I HM => ?_)
 refine qy (fun aS wS => ∃ (g9 : Nat), Fr aS 158 [] [(9, vP g9 0), (8, vP gtA (k * 8)), (67, .bool false), (7, vI id), (33, .bool false), (24, .bool false), (18, .bool false), (6, vP gm 0), (5, vI 0), (4, vI 0), (3, vP g3 0), (0, vP gm 0)] ∧ Mem W wS (.blk g9 e.cells 117 :: .blk g3 o.cells 52 :: fM gm cp cr (some ⟨ggA, 0, none⟩) ng gc (some ⟨glA, 0, none⟩) nl lc (some ⟨guA, 0, none⟩) nu uc (some ⟨gtA, 0, none⟩) nt tc (some ⟨gsA, 0, none⟩) ns sc :: fG (some ⟨ggA, 0, none⟩) ng gc gs :: fI (some ⟨glA, 0, none⟩) nl lc (cl.set c (v + d)) :: fI (some ⟨guA, 0, none⟩) nu uc cu :: fT (some ⟨gtA, 0, none⟩) nt tc ts :: fS (some ⟨gsA, 0, none⟩) ns sc rs :: (fR rs ++ (T)))) ?_ ?_
 ·
  refine Jb I HM ((Vs .n [20]) fun wd13 => (Vp [0, 4, 8]∘Vf 13 6∘Vn 1∘Vf 2 6∘Vy 3 (v := vQ t.v) (h:=by exact Yl.qo rfl rfl kr (fun _ h => h.qq qd (i := 5) rfl (k := k) (off := 6) (x := t) (ht) rfl))∘Vn 5∘Vf 6 7∘Vy 7 (v := vW t.r) (h:=by exact Yl.qo rfl rfl kr (fun _ h => h.qq qd (i := 5) rfl (k := k) (off := 7) (x := t) (ht) rfl))∘Vn 9∘Vf 10 2∘Vy 11 (v := vI t.weight) (h:=by exact Yl.qo rfl rfl kr (fun _ h => h.qq qd (i := 5) rfl (k := k) (off := 2) (x := t) (ht) rfl))∘Vo (vI wt) (by rw [hwt])∘Vc 14 O0∘Vo (vI d) (by rw [hod])) fun a I HM HS => ?_)
  refine qu [12, 19] kr rfl ?_
  refine all_cons ?_ ?_
  ·refine qk I (i := 12) rfl rfl ?_
   refine e_is I HM [vQ t.v, vW t.r, vI wt] (.agg #[vQ t.v, vW t.r, vW wt]) rfl rfl (q7 t.v t.r (wt : Int) om _) fun w89 hbw HM a I => ?_
   refine keepS (HM.pt 7 [0, 1, 2, 3, 4, 5, 6]) (fun HS => ?_)
   refine qu [15, 19] kr rfl ?_
   refine all_cons ?_ ?_
   ·refine qk I (i := 15) rfl rfl ?_
    refine e_is I HM [.agg #[vQ t.v, vW t.r, vW wt], vI d] (.tuple #[.agg e.cells, vI 0]) rfl rfl (qeu (⟨t.v, t.r, wt⟩ : En) e hEo d hd0 hew _) fun w92 hbw HM a I => ?_
    refine keepS (HM.pt 7 [0, 1, 2, 3, 4, 5, 6]) (fun HS => ?_)
    refine Vb I HM HS ((Vp [16]∘Vx 17∘Vx 18∘VA 19 .n #[vQ 0, vW 0, vW 0]) fun w9 g9 => fun a I HM HS => ?_)
    refine s_on I 20 rfl (e_sa I HM 0 rfl rfl rfl rfl rfl qp rfl rfl (qw e) fun w13_20 HM => ?_)
    refine noS kr ?_
    refine ap I (pastS kr) [21] (bt 22 []) [] fun a I => ?_
    refine qb kr ?_
    replace I := I.to [(9, vP g9 0), (8, vP gtA (k * 8)), (67, .bool false), (7, vI id), (33, .bool false), (24, .bool false), (18, .bool false), (6, vP gm 0), (5, vI 0), (4, vI 0), (3, vP g3 0), (0, vP gm 0)]
    exact ⟨g9, I.sub kr, HM.pt 8 [0, 1, 2, 3, 4, 5, 6, 7]⟩
   refine all_cons ?_ all_nil
   refine qk I (i := 19) rfl rfl ?_
   refine s_ea I HM #[vQ 0, vW 0, vW 0] ?_
   clear I HM; intro a w9 g9 I HM
   refine keepS (HM.pt 8 [1, 2, 3, 4, 5, 6, 7]) (fun HS => ?_)
   refine Vb I HM HS ((VI 15 (.f .n) (h:=by exact fun HM => qeu (⟨t.v, t.r, wt⟩ : En) e hEo d hd0 hew _)) fun w92 hbw => (Vp [16]∘Vx 17∘Vx 18) fun a I HM HS => ?_)
   refine s_on I 20 rfl (e_sa I HM 0 rfl rfl rfl rfl rfl qp rfl rfl (qw e) fun w13_20 HM => ?_)
   refine noS kr ?_
   refine ap I (pastS kr) [21] (bt 22 []) [] fun a I => ?_
   refine qb kr ?_
   replace I := I.to [(9, vP g9 0), (8, vP gtA (k * 8)), (67, .bool false), (7, vI id), (33, .bool false), (24, .bool false), (18, .bool false), (6, vP gm 0), (5, vI 0), (4, vI 0), (3, vP g3 0), (0, vP gm 0)]
   exact ⟨g9, I.sub kr, HM.pt 8 [0, 1, 2, 3, 4, 5, 6, 7]⟩
  refine all_cons ?_ all_nil
  refine qk I (i := 19) rfl rfl ?_
  refine s_ea I HM #[vQ 0, vW 0, vW 0] ?_
  clear I HM; intro a w9 g9 I HM
  refine keepS (HM.pt 8 [1, 2, 3, 4, 5, 6, 7]) (fun HS => ?_)
  refine Vb I HM HS ((VI 12 (.f .n) (h:=by exact fun HM => q7 t.v t.r (wt : Int) om _)) fun w89 hbw => (VI 15 (.f .n) (h:=by exact fun HM => qeu (⟨t.v, t.r, wt⟩ : En) e hEo d hd0 hew _)) fun w92 hbw => (Vp [16]∘Vx 17∘Vx 18) fun a I HM HS => ?_)
  refine s_on I 20 rfl (e_sa I HM 0 rfl rfl rfl rfl rfl qp rfl rfl (qw e) fun w13_20 HM => ?_)
  refine noS kr ?_
  refine ap I (pastS kr) [21] (bt 22 []) [] fun a I => ?_
  refine qb kr ?_
  replace I := I.to [(9, vP g9 0), (8, vP gtA (k * 8)), (67, .bool false), (7, vI id), (33, .bool false), (24, .bool false), (18, .bool false), (6, vP gm 0), (5, vI 0), (4, vI 0), (3, vP g3 0), (0, vP gm 0)]
  exact ⟨g9, I.sub kr, HM.pt 8 [0, 1, 2, 3, 4, 5, 6, 7]⟩
 clear I HM; rintro a w13 ⟨g9, I, HM⟩
 refine Jb I HM ((JP∘Jp 1∘Jy (v := .agg e.cells) (h:=by exact Yl.loadS rfl rfl qp rfl (fun _ h => qa (h.blk (i := 0) rfl)))∘JO (h:=by exact fun HM => ql9 t e O6' HM ht hlt heo.1)) fun w97 => (Jt3∘Jj∘JQ∘JP∘Jp 1∘Jn∘Jf 1∘Jy (v := vI ((t.put e).group)) (h:=by exact Yl.qo rfl rfl kr (fun _ h => h.qq qd (i := 6) rfl (k := k) (off := 1) (x := (t.put e)) ((qba ht)) rfl))∘Jo (vI gt) (by rw [← hgt]; try rfl)∘Jp 1∘Jd4∘Jj∘JB) fun a I HM => ?_)
 refine qi (fun mS aS wS => ∃ (g : Nat) (rs2 : List Rw), (g < ns) ∧ (rs2.length = ns) ∧ (SpsOk gs cp rs2) ∧ (qb5 c d g (⟨cp, cr, some ⟨ggA, 0, none⟩, gc, gs, some ⟨glA, 0, none⟩, lc, cl.set c (v + d), some ⟨guA, 0, none⟩, uc, cu, some ⟨gtA, 0, none⟩, tc, ts.set k (t.put e), some ⟨gsA, 0, none⟩, sc, rs2⟩ : Stm).sta = qb5 c d gt (⟨cp, cr, some ⟨ggA, 0, none⟩, gc, gs, some ⟨glA, 0, none⟩, lc, cl.set c (v + d), some ⟨guA, 0, none⟩, uc, cu, some ⟨gtA, 0, none⟩, tc, ts.set k (t.put e), some ⟨gsA, 0, none⟩, sc, rs⟩ : Stm).sta) ∧ mS = 0 + g ∧ Fr aS 158 [] [(11, vI g), (9, vP g9 0), (8, vP gtA (k * 8)), (67, .bool false), (7, vI id), (33, .bool false), (24, .bool false), (18, .bool false), (6, vP gm 0), (5, vI 0), (4, vI 0), (3, vP g3 0), (0, vP gm 0)] ∧ Mem W wS (.blk g9 e.cells 117 :: .blk g3 o.cells 52 :: fM gm cp cr (some ⟨ggA, 0, none⟩) ng gc (some ⟨glA, 0, none⟩) nl lc (some ⟨guA, 0, none⟩) nu uc (some ⟨gtA, 0, none⟩) nt tc (some ⟨gsA, 0, none⟩) ns sc :: fG (some ⟨ggA, 0, none⟩) ng gc gs :: fI (some ⟨glA, 0, none⟩) nl lc (cl.set c (v + d)) :: fI (some ⟨guA, 0, none⟩) nu uc cu :: fT (some ⟨gtA, 0, none⟩) nt tc (ts.set k (t.put e)) :: fS (some ⟨gsA, 0, none⟩) ns sc rs2 :: (fR rs2 ++ (T)))) (m := 0 + gt) ⟨gt, rs, by omega, hls, hsp, rfl, rfl, I.sub kr, HM.pt 8 [0, 1, 2, 3, 4, 5, 6, 7]⟩ ?_
 clear I HM; rintro mS a w_ ⟨g, rs2, hg, hl2, hsp2, hst2, rfl, I, HM⟩
 refine Jb I HM ((JQ∘JP∘Jp 2∘Jd1∘Jj) (Ju (fun hb103 => ?_) fun hb103 => ?_))
 ·
  intro a I HM
  have hd103 := of_decide_eq_true hb103
  have hg0 : 0 < g := by omega
  obtain ⟨⟨yA, yc, yl⟩, hy⟩ : ∃ y, rs2.getD g Rw.zero = y := ⟨_, rfl⟩
  have hys := hsp2 g om; rw [hy] at hys
  have hyl : (yl.length : Int) = cp := hys.1
  revert HM; revert a; repeat (first | clear I | clear HM)
  intro a I HM
  obtain ⟨gy, rfl⟩ := HM.rwSome 8 rfl om hy om
  obtain ⟨yz, hyz⟩ : ∃ z, yl[c]? = some z := ⟨_, List.getElem?_eq_getElem om⟩
  have hyo := hys.2 yz (List.mem_of_getElem? hyz)
  have hyv := hyo.1.v; have hyr := hyo.1.r; have hyf := hyo.1.floor
  have hpb := zy hgs (g := g) om g hg0 (Nat.le_refl _)
  unfold ParB at hpb
  obtain ⟨p, hpp⟩ : ∃ p : Nat, (gs.getD g Gr.zero).parent = (p : Int) := ⟨(gs.getD g Gr.zero).parent.toNat, by omega⟩
  have hpg : p < g := by omega
  obtain ⟨zw, hzw, hzw1, hzw2⟩ := qbt hgs (g := g) om
  have hFo : (⟨yz.v, yz.r, zw⟩ : En).Ok := En.qda hyo.2 hzw hyo.1.v
  obtain ⟨f, hfw⟩ : ∃ e, (⟨yz.v, yz.r, zw⟩ : En).add d = e := ⟨_, rfl⟩
  have hfo : f.Ok ∧ f.w = zw := by rw [← hfw]; exact En.qhu hFo d
  have hfv := hfo.1.2; have hfr : f.r < 4294967296 := by have := qbu hfo.1.1; omega
  refine Jb I HM ((JT∘JS'∘JQ∘JB) fun a I HM => ?_)
  refine wp_seq ?_
  refine Jb I HM ((Vs .n []) fun wd18 => (Vp [0, 4]∘Vf 7 1∘Vn 1∘Vf 2 6∘Vc 3 O2∘Vy 5 (h:=by exact Yl.ix0 gsA g 1 rfl rfl rfl)∘Vy 6 (v := .slice ((rs2.getD g Rw.zero).A) ((rs2.getD g Rw.zero).l.length) ((rs2.getD g Rw.zero).c)) (h:=by exact Yl.r1 7 g Rw.zero om rfl rfl rfl)∘Vo (vS gy yl.length yc) (by rw [hy])∘Vc 8 O1∘Vo (vI c) (by rw [hcc])∘Vy 9 (h:=by exact Yl.ix0 gy c 3 rfl rfl rfl)∘Vp [10]∘Vd∘Jd6) fun a I HM => ?_)
  refine qy (fun aS wS => ∃ (g13 : Nat), Fr aS 158 [] [(13, vP g13 0), (12, vP gy (c * 3)), (103, .bool true), (11, vI g), (9, vP g9 0), (8, vP gtA (k * 8)), (67, .bool false), (7, vI id), (33, .bool false), (24, .bool false), (18, .bool false), (6, vP gm 0), (5, vI 0), (4, vI 0), (3, vP g3 0), (0, vP gm 0)] ∧ Mem W wS (.blk g13 f.cells 117 :: .blk g9 e.cells 117 :: .blk g3 o.cells 52 :: fM gm cp cr (some ⟨ggA, 0, none⟩) ng gc (some ⟨glA, 0, none⟩) nl lc (some ⟨guA, 0, none⟩) nu uc (some ⟨gtA, 0, none⟩) nt tc (some ⟨gsA, 0, none⟩) ns sc :: fG (some ⟨ggA, 0, none⟩) ng gc gs :: fI (some ⟨glA, 0, none⟩) nl lc (cl.set c (v + d)) :: fI (some ⟨guA, 0, none⟩) nu uc cu :: fT (some ⟨gtA, 0, none⟩) nt tc (ts.set k (t.put e)) :: fS (some ⟨gsA, 0, none⟩) ns sc rs2 :: (fR rs2 ++ (T)))) ?_ ?_
  ·
   refine Jb I HM ((Vs .n [25]) fun wd19 => (Vp [0, 4, 8, 13]∘Vf 18 6∘Vn 1∘Vf 2 0∘Vy 3 (v := vQ yz.v) (h:=by exact Yl.qo rfl rfl kr (fun _ h => h.qat 8 (j := 0) rfl om hy (hyz) rfl))∘Vn 5∘Vf 6 1∘Vy 7 (v := vW yz.r) (h:=by exact Yl.qo rfl rfl kr (fun _ h => h.qat 8 (j := 1) rfl om hy (hyz) rfl))∘Vn 9∘Vf 10 0∘Vf 11 2∘Vc 12 O2∘Vy 14 (h:=by exact Yl.ix0 ggA g 2 rfl rfl rfl)∘Vf 15 1∘Vy 16 (v := vI ((gs.getD g Gr.zero).weight)) (h:=by exact Yl.qo rfl rfl kr (fun _ h => h.qq za (i := 3) rfl (k := g) (off := 1) (x := (gs.getD g Gr.zero)) ((getD_at Gr.zero om)) rfl))∘Vo (vI zw) (by rw [hzw])∘Vc 19 O1∘Vo (vI d) (by rw [hod])) fun a I HM HS => ?_)
   refine qu [17, 24] kr rfl ?_
   refine all_cons ?_ ?_
   ·refine qk I (i := 17) rfl rfl ?_
    refine e_is I HM [vQ yz.v, vW yz.r, vI zw] (.agg #[vQ yz.v, vW yz.r, vW zw]) rfl rfl (q7 yz.v yz.r (zw : Int) om _) fun w141 hbw HM a I => ?_
    refine keepS (HM.pt 8 [0, 1, 2, 3, 4, 5, 6, 7]) (fun HS => ?_)
    refine qu [20, 24] kr rfl ?_
    refine all_cons ?_ ?_
    ·refine qk I (i := 20) rfl rfl ?_
     refine e_is I HM [.agg #[vQ yz.v, vW yz.r, vW zw], vI d] (.tuple #[.agg f.cells, vI 0]) rfl rfl (qeu (⟨yz.v, yz.r, zw⟩ : En) f hFo d hd0 hfw _) fun w144 hbw HM a I => ?_
     refine keepS (HM.pt 8 [0, 1, 2, 3, 4, 5, 6, 7]) (fun HS => ?_)
     refine Vb I HM HS ((Vp [21]∘Vx 22∘Vx 23∘VA 24 .n #[vQ 0, vW 0, vW 0]) fun w13 g13 => fun a I HM HS => ?_)
     refine s_on I 25 rfl (e_sa I HM 0 rfl rfl rfl rfl rfl qp rfl rfl (qw f) fun w19_25 HM => ?_)
     refine noS kr ?_
     refine ap I (pastS kr) [26] (bt 27 []) [] fun a I => ?_
     refine qb kr ?_
     exact ⟨g13, I.sub kr, HM.pt 9 [0, 1, 2, 3, 4, 5, 6, 7, 8]⟩
    refine all_cons ?_ all_nil
    refine qk I (i := 24) rfl rfl ?_
    refine s_ea I HM #[vQ 0, vW 0, vW 0] ?_
    clear I HM; intro a w13 g13 I HM
    refine keepS (HM.pt 9 [1, 2, 3, 4, 5, 6, 7, 8]) (fun HS => ?_)
    refine Vb I HM HS ((VI 20 (.f .n) (h:=by exact fun HM => qeu (⟨yz.v, yz.r, zw⟩ : En) f hFo d hd0 hfw _)) fun w144 hbw => (Vp [21]∘Vx 22∘Vx 23) fun a I HM HS => ?_)
    refine s_on I 25 rfl (e_sa I HM 0 rfl rfl rfl rfl rfl qp rfl rfl (qw f) fun w19_25 HM => ?_)
    refine noS kr ?_
    refine ap I (pastS kr) [26] (bt 27 []) [] fun a I => ?_
    refine qb kr ?_
    exact ⟨g13, I.sub kr, HM.pt 9 [0, 1, 2, 3, 4, 5, 6, 7, 8]⟩
   refine all_cons ?_ all_nil
   refine qk I (i := 24) rfl rfl ?_
   refine s_ea I HM #[vQ 0, vW 0, vW 0] ?_
   clear I HM; intro a w13 g13 I HM
   refine keepS (HM.pt 9 [1, 2, 3, 4, 5, 6, 7, 8]) (fun HS => ?_)
   refine Vb I HM HS ((VI 17 (.f .n) (h:=by exact fun HM => q7 yz.v yz.r (zw : Int) om _)) fun w141 hbw => (VI 20 (.f .n) (h:=by exact fun HM => qeu (⟨yz.v, yz.r, zw⟩ : En) f hFo d hd0 hfw _)) fun w144 hbw => (Vp [21]∘Vx 22∘Vx 23) fun a I HM HS => ?_)
   refine s_on I 25 rfl (e_sa I HM 0 rfl rfl rfl rfl rfl qp rfl rfl (qw f) fun w19_25 HM => ?_)
   refine noS kr ?_
   refine ap I (pastS kr) [26] (bt 27 []) [] fun a I => ?_
   refine qb kr ?_
   exact ⟨g13, I.sub kr, HM.pt 9 [0, 1, 2, 3, 4, 5, 6, 7, 8]⟩
  clear I HM; rintro a w19 ⟨g13, I, HM⟩
  refine qgx HM [.blk g13 f.cells 117, .blk g9 e.cells 117, .blk g3 o.cells 52, fM gm cp cr (some ⟨ggA, 0, none⟩) ng gc (some ⟨glA, 0, none⟩) nl lc (some ⟨guA, 0, none⟩) nu uc (some ⟨gtA, 0, none⟩) nt tc (some ⟨gsA, 0, none⟩) ns sc, fG (some ⟨ggA, 0, none⟩) ng gc gs, fI (some ⟨glA, 0, none⟩) nl lc (cl.set c (v + d)), fI (some ⟨guA, 0, none⟩) nu uc cu, fT (some ⟨gtA, 0, none⟩) nt tc (ts.set k (t.put e))] [0, 1, 2, 3, 4, 5, 6, 7] [11] fun HM HS => ?_
  refine ap I (fun _ => HS) [0, 1, 2, 4] (bf 12 [0, 1, 2, 4]) [(151, vP g13 1), (149, vP g13 0), (148, vP gy (c * 3)), (147, vP gy (c * 3))] fun a I => ?_
  refine s_ac I HS 3 0 (v := vQ f.v) fun a I => ?_
  refine s_ac I HS 5 0 (v := vW f.r) fun a I => ?_
  refine s_am I HS 6 fun a I => ?_
  refine ap I (fun _ => HS) [7] (bt 12 [8, 9, 10, 11]) [(154, vP gy (c * 3))] fun a I => ?_
  refine s_on I 8 rfl ?_
  refine q6 I HM 8 (c := c) 0 ({ yz with v := f.v }) rfl rfl rfl rfl kr rfl rfl om (hy) (hyz) rfl de rfl fun w20_8 HM => ?_
  replace HM : Mem W w20_8 (.blk g13 f.cells 117 :: .blk g9 e.cells 117 :: .blk g3 o.cells 52 :: fM gm cp cr (some ⟨ggA, 0, none⟩) ng gc (some ⟨glA, 0, none⟩) nl lc (some ⟨guA, 0, none⟩) nu uc (some ⟨gtA, 0, none⟩) nt tc (some ⟨gsA, 0, none⟩) ns sc :: fG (some ⟨ggA, 0, none⟩) ng gc gs :: fI (some ⟨glA, 0, none⟩) nl lc (cl.set c (v + d)) :: fI (some ⟨guA, 0, none⟩) nu uc cu :: fT (some ⟨gtA, 0, none⟩) nt tc (ts.set k (t.put e)) :: fS (some ⟨gsA, 0, none⟩) ns sc (rsPut rs2 g c ({ yz with v := f.v })) :: (fR (rsPut rs2 g c ({ yz with v := f.v })) ++ (T))) := HM
  refine keepS (HM.pk [0, 1, 2, 3, 4, 5, 6, 7]) (fun HS => ?_)
  refine s_an I (fun _ => HS) 9 fun a I => ?_
  refine ap I (fun _ => HS) [10] (bt 12 [11]) [(156, vP gy (c * 3 + 1))] fun a I => ?_
  refine s_on I 11 rfl ?_
  refine q6 I HM 8 (c := c) 1 ({ yz with v := f.v, r := f.r }) rfl rfl rfl rfl kr rfl rfl (by first | omega | (rw [qr]; omega)) (qeb om hy) (qba hyz) rfl de rfl fun w20_11 HM => ?_
  replace HM : Mem W w20_11 (.blk g13 f.cells 117 :: .blk g9 e.cells 117 :: .blk g3 o.cells 52 :: fM gm cp cr (some ⟨ggA, 0, none⟩) ng gc (some ⟨glA, 0, none⟩) nl lc (some ⟨guA, 0, none⟩) nu uc (some ⟨gtA, 0, none⟩) nt tc (some ⟨gsA, 0, none⟩) ns sc :: fG (some ⟨ggA, 0, none⟩) ng gc gs :: fI (some ⟨glA, 0, none⟩) nl lc (cl.set c (v + d)) :: fI (some ⟨guA, 0, none⟩) nu uc cu :: fT (some ⟨gtA, 0, none⟩) nt tc (ts.set k (t.put e)) :: fS (some ⟨gsA, 0, none⟩) ns sc (rsPut (rsPut rs2 g c ({ yz with v := f.v })) g c ({ yz with v := f.v, r := f.r })) :: (fR (rsPut (rsPut rs2 g c ({ yz with v := f.v })) g c ({ yz with v := f.v, r := f.r })) ++ (T))) := HM
  rw [qa9 (by first | omega | (rw [qr]; omega))] at HM
  refine noS kr ?_
  refine qb kr ?_
  refine Jb I HM ((JG∘JR∘Jp 1∘Jn∘Jf 0∘Jg 2 O3∘Jp 1∘Jy (h:=by exact Yl.ix0 ggA g 2 rfl rfl rfl)∘Jf 0∘Jy (v := vI ((gs.getD g Gr.zero).parent)) (h:=by exact Yl.qo rfl rfl kr (fun _ h => (by have := h.qq za (i := 4) rfl (k := g) (off := 0) (x := (gs.getD g Gr.zero)) ((getD_at Gr.zero om)) rfl; simpa using this)))∘Jo (vI p) (by rw [hpp])∘Jp 1∘Jd6∘Jq) fun a I HM => ?_)
  exact ⟨_, om, p, (rsPut rs2 g c { yz with v := f.v, r := f.r }), by omega, by rw [qr]; exact hl2, hsp2.put { yz with v := f.v, r := f.r } ⟨hfv, hfr, hyo.1.floor⟩ (by rw [hzw]; have := hfo.1.1; rw [hfo.2] at this; exact this), by rw [← hst2, qcp (c := c) (d := d) (g := g) (p := p) (zy hgs om) hg0 hpp, qdp (x := (⟨cp, cr, some ⟨ggA, 0, none⟩, gc, gs, some ⟨glA, 0, none⟩, lc, (cl.set c (v + d)), some ⟨guA, 0, none⟩, uc, cu, some ⟨gtA, 0, none⟩, tc, (ts.set k (t.put e)), some ⟨gsA, 0, none⟩, sc, rs2⟩ : Stm)) (by show g < rs2.length; omega) hy hyz hzw hfw], rfl, I.sub kr, HM.pt 9 [1, 2, 3, 4, 5, 6, 7, 8]⟩
 intro a I HM
 have hd103 := of_decide_eq_false hb103
 exact Jb I HM ((JF∘JX∘JG∘JP∘Jp 3∘Jj∘JZ∘Jz2) fun HM => by exact qs (y := (⟨cp, cr, some ⟨ggA, 0, none⟩, gc, gs, some ⟨glA, 0, none⟩, lc, (cl.set c (v + d)), some ⟨guA, 0, none⟩, uc, cu, some ⟨gtA, 0, none⟩, tc, (ts.set k (t.put e)), some ⟨gsA, 0, none⟩, sc, rs2⟩ : Stm)) 2 HM rfl ⟨hlns.g, by show (cl.set _ _).length = nl; rw [List.length_set]; exact hll, hlns.u, by show (ts.set _ _).length = nt; rw [List.length_set]; exact hlt, hl2⟩ ((qmb (x := (⟨cp, cr, some ⟨ggA, 0, none⟩, gc, gs, some ⟨glA, 0, none⟩, lc, cl, some ⟨guA, 0, none⟩, uc, cu, some ⟨gtA, 0, none⟩, tc, ts, some ⟨gsA, 0, none⟩, sc, rs⟩ : Stm)) (decide_eq_true hd18) htk hcc hod hv om hid hid0 hk ht hgt hwt hew).trans (by rw [← show qb5 c d g (⟨cp, cr, some ⟨ggA, 0, none⟩, gc, gs, some ⟨glA, 0, none⟩, lc, cl.set c (v + d), some ⟨guA, 0, none⟩, uc, cu, some ⟨gtA, 0, none⟩, tc, ts.set k (t.put e), some ⟨gsA, 0, none⟩, sc, rs2⟩ : Stm).sta = _ from hst2, show g = 0 by omega]; rfl)))
theorem qig (x e : En) (hx : x.Ok) (fr to : Nat) (hf : fr < 18446744073709551616) (ht : to < 18446744073709551616) (he : x.moved fr to = e) (w : World) : Calls Tryz.prog 126 #[.agg x.cells, vQ fr, vQ to] w (Is w (.tuple #[.agg e.cells, vI 0])) := he ▸ qpz x hx fr to hf ht w
def IdxIs (w : World) (l : List Int) (v : Int) (r : Ending) (w' : World) : Prop := (∃ i : Int, r = .returned (vI i) ∧ decide (i ≥ 0) = decide (v ∈ l)) ∧ Below w.heap.size w w'
theorem qnv {w w' : World} {l : List Int} {v : Int} {k : Nat} (hk : k < l.length) (h : l.getD k 0 = v) (hb : Below w.heap.size w w') : IdxIs w l v (.returned (vI k)) w' := ⟨⟨k, rfl, decide_eq_decide.2 ⟨fun _ => h ▸ qm 0 hk, fun _ => by omega⟩⟩, hb⟩
theorem qnw {w w' : World} {l : List Int} {v : Int} (h : ∀ i, i < l.length → l.getD i 0 ≠ v) (hb : Below w.heap.size w w') : IdxIs w l v (.returned (vI (-1))) w' := by
 refine ⟨⟨-1, rfl, decide_eq_decide.2 ⟨fun h1 => by omega, fun h1 => ?_⟩⟩, hb⟩
 obtain ⟨i, hi, rfl⟩ := List.getElem_of_mem h1
 exact absurd (by rw [List.getD_eq_getElem?_getD, List.getElem?_eq_getElem hi]; rfl) (h i hi)
theorem qvp {l : List Int} {v : Int} {k : Nat} (h : ∀ i, i < k → l.getD i 0 ≠ v) (hk : l.getD k 0 ≠ v) : ∀ i, i < k + 1 → l.getD i 0 ≠ v := fun i hi => by
 rcases Nat.lt_or_ge i k with h1 | h1
 ·exact h i h1
 ·obtain rfl : i = k := by omega
  exact hk
theorem qml {m c : Nat} {s : Nat} {v : Int} (hs : s = m) (hc : v = (c : Int)) (h : ¬ (m / 2 ^ c) % 2 = 1) : bitOn s v = false := by
 subst hs; subst hc
 unfold bitOn
 rw [Int.toNat_natCast, decide_eq_false h]
theorem qgf {m c : Nat} {v : Int} (hc : v = (c : Int)) (h : (m / 2 ^ c) % 2 = 1) : bitOn m v = true := by
 subst hc
 unfold bitOn
 rw [Int.toNat_natCast, decide_eq_true h]
theorem qih (W w : World) (x : Stm) (gm : Nat) (ng nl nu nt ns : Nat) (hx : MdOk x ng nl nu nt ns) (o : Op30) (ho : o.Ok) (T : List Fact) (HM : Mem W w (mdA gm x ng nl nu nt ns ++ T)) :
    Calls Tryz.prog 37 #[vP gm 0, .agg o.cells] w (OpIs W gm T (z8 x.sta o)) := by
 obtain ⟨cp, cr, gA, gc, gs, lA, lc, cl, uA, uc, cu, tA, tc, ts, sA, sc, rs⟩ := x
 replace HM : Mem W w (fM gm cp cr gA ng gc lA nl lc uA nu uc tA nt tc sA ns sc :: fG gA ng gc gs :: fI lA nl lc cl :: fI uA nu uc cu :: fT tA nt tc ts :: fS sA ns sc rs :: (fR rs ++ (T))) := HM
 obtain ⟨hlg, hll, hlu, hlt, hls⟩ := hx.ln
 replace hlg : gs.length = ng := hlg; replace hll : cl.length = nl := hll; replace hlu : cu.length = nu := hlu; replace hlt : ts.length = nt := hlt; replace hls : rs.length = ns := hls
 have hlns := hx.ln
 have hsp : SpsOk gs cp rs := hx.spots
 have hrg : rs.length = gs.length := hx.sh.rs
 have hcr : cr < 18446744073709551616 := hx.ok.credit
 obtain ⟨hcp1, hcp2, _, hgs⟩ := zf hx.sh.cfg
 replace hcp1 : 1 ≤ cp := hcp1; replace hcp2 : cp ≤ 64 := hcp2; replace hgs : gsOk gs = true := hgs
 have hgl1 := (qh hgs).1; have hgl2 := (qh hgs).2.1
 have hcll : (cl.length : Int) = cp := hx.sh.cl; have hcul : (cu.length : Int) = cp := hx.sh.cu
 have hfts : ts.length ≤ 1000000 := hx.few.t
 have hoc := ho.cpu; have hot := ho.task; have hog := ho.group; have how := ho.weight; have hoto := ho.to; have hotk := ho.ticks; have hom := ho.mask; have hok8 := ho.kind; unfold I64 at hoc hot hog how hoto hotk
 obtain ⟨ggA, rfl⟩ := qe (HM.own (i := 1) rfl) om
 obtain ⟨gsA, rfl⟩ := qe (HM.own (i := 5) rfl) om
 refine (Jin2 HM Tryz.func37 102) ?_
 refine (JP∘JE) fun w3 g3 => (Jp 2∘Jr∘Jp 1∘Jn∘Jf 0∘Jp 1∘Jd3∘Jj∘JQ∘JB) fun a I HM => ?_
 refine qy (fun aS wS => Fr aS 102 [] [(14, .bool (!(decide (1 ≤ o.group ∧ o.group < rs.length)))), (6, vP gm 0), (5, vI 0), (4, vI 0), (3, vP g3 0)] ∧ Mem W wS (.blk g3 o.cells 52 :: fM gm cp cr (some ⟨ggA, 0, none⟩) ng gc lA nl lc uA nu uc tA nt tc (some ⟨gsA, 0, none⟩) ns sc :: fG (some ⟨ggA, 0, none⟩) ng gc gs :: fI lA nl lc cl :: fI uA nu uc cu :: fT tA nt tc ts :: fS (some ⟨gsA, 0, none⟩) ns sc rs :: (fR rs ++ (T)))) ?_ ?_
 ·
  refine Jb I HM ((Vs .n []) fun wd2 => (Vf 0 3∘Vc 1 O0∘Vp [2, 3]) fun a I HM HS => ?_)
  rcases I.tf 18 rfl with ⟨hb18, I⟩ | ⟨hb18, I⟩
  ·
   have hd18 := of_decide_eq_true hb18
   refine Vb I HM HS ((Vq [4, 5, 6, 7, 8, 9, 10, 11, 12, 13] [(14, .bool true)]∘Vd∘Jd5) fun a I HM => ?_)
   have I := I.sp 14 (.bool (!(decide (1 ≤ o.group ∧ o.group < rs.length)))) rfl (congrArg Value.bool (by rw [decide_eq_false om]; rfl))
   exact ⟨I.sub kr, HM.pt 7 [0, 1, 2, 3, 4, 5, 6]⟩
  have hd18 := of_decide_eq_false hb18
  refine ap I (fun _ => HS) [4, 6] (bf 14 [0, 1, 2, 3, 4, 6]) [(21, vP gm 0), (19, vP g3 3)] fun a I => ?_
  refine s_ac I HS 5 0 (v := vI o.group) fun a I => ?_
  refine s_am I HS 7 fun a I => ?_
  refine ap I (fun _ => HS) [8] (bt 14 [9, 10, 11, 12, 13]) [(23, vP gm 6)] fun a I => ?_
  refine s_ac I HS 9 1 fun a I => ?_
  refine s_al I HS 10 fun a I => ?_
  refine ap I (fun _ => HS) [11, 12, 13] (bt 14 []) [(14, .bool (decide ((o.group : Int) ≥ (ns : Int))))] fun a I => ?_
  refine qb kr ?_
  have I := I.sp 14 (.bool (!(decide (1 ≤ o.group ∧ o.group < rs.length)))) rfl (congrArg Value.bool (by rw [← decide_not]; exact decide_eq_decide.2 om))
  exact ⟨I.sub kr, HM.pt 7 [0, 1, 2, 3, 4, 5, 6]⟩
 clear I HM; rintro a w2 ⟨I, HM⟩
 refine Jb I HM (Ji' (fun hd14 => ?_) fun hd14 => ?_)
 ·
  exact (JT∘JP∘Jp 2∘Jj∘JZ∘Jz2) fun HM => by exact qs (y := (⟨cp, cr, some ⟨ggA, 0, none⟩, gc, gs, lA, lc, cl, uA, uc, cu, tA, tc, ts, some ⟨gsA, 0, none⟩, sc, rs⟩ : Stm)) 1 HM rfl hlns (if_pos (by show ¬ (1 ≤ o.group ∧ o.group < ((rs.map Rw.l).length : Nat)); rw [List.length_map]; exact hd14))
 refine (JF∘JP∘Jg 4 O0∘JL (h:=by exact fun HM => qcm o.weight _)) ?_
 rintro HM _ w31 ⟨rfl, hbw⟩
 refine ⟨_, rfl, _, HM.call hbw, ?_⟩
 refine (Jp 2∘Jd3∘Jj) (Ju (fun hb28 => ?_) fun hb28 => ?_)
 ·
  intro a I HM
  have hd28 := of_decide_eq_false ((Bool.not_eq_true' _).mp hb28)
  exact Jb I HM ((JT∘JP∘Jp 2∘Jj∘JZ∘Jz2) fun HM => by exact qs (y := (⟨cp, cr, some ⟨ggA, 0, none⟩, gc, gs, lA, lc, cl, uA, uc, cu, tA, tc, ts, some ⟨gsA, 0, none⟩, sc, rs⟩ : Stm)) 1 HM rfl hlns ((if_neg (by show ¬ ¬ (1 ≤ o.group ∧ o.group < ((rs.map Rw.l).length : Nat)); rw [List.length_map]; omega)).trans (if_pos (decide_eq_false hd28))))
 intro a I HM
 have hd28 := of_decide_eq_true ((Bool.not_eq_false' _).mp hb28)
 have hgb : 1 ≤ o.group ∧ o.group < rs.length := by omega
 obtain ⟨z, hoz⟩ : ∃ n : Nat, o.weight = (n : Int) := ⟨o.weight.toNat, by omega⟩
 have hz : 1 ≤ z ∧ z ≤ 65536 := by omega
 obtain ⟨g, hgg⟩ : ∃ n : Nat, o.group = (n : Int) := ⟨o.group.toNat, by omega⟩
 obtain ⟨⟨yA, yc, yl⟩, hy⟩ : ∃ y, rs.getD g Rw.zero = y := ⟨_, rfl⟩
 have hys := hsp g om; rw [hy] at hys
 have hyl : (yl.length : Int) = cp := hys.1
 obtain ⟨gr, hgr⟩ : ∃ z, gs[g]? = some z := ⟨_, List.getElem?_eq_getElem om⟩
 obtain ⟨zw, hzw, hzw1, hzw2⟩ := qbt hgs (g := g) om
 have hgrd := qx Gr.zero hgr
 rw [hgrd] at hzw
 revert HM; revert a; repeat (first | clear I | clear HM)
 intro a I HM
 obtain ⟨gy, rfl⟩ := HM.rwSome 7 rfl om hy om
 refine Jb I HM ((JF∘JS'∘JQ) fun a I HM => ?_)
 refine wp_seq ?_
 refine Jb I HM ((Vs .n []) fun wd6 => (Vp [0]∘Vf 4 3∘Vp [9]∘Vn 1∘Vf 2 6∘Vc 3 O1∘Vc 5 O0∘Vo (vI g) (by rw [hgg])∘Vy 6 (h:=by exact Yl.ix0 gsA g 1 rfl rfl rfl)∘Vy 7 (v := .slice ((rs.getD g Rw.zero).A) ((rs.getD g Rw.zero).l.length) ((rs.getD g Rw.zero).c)) (h:=by exact Yl.r1 6 g Rw.zero om rfl rfl rfl)∘Vo (vS gy yl.length yc) (by rw [hy])∘Vl 8∘Vd∘Jd6∘JB) fun a I HM => ?_)
 refine qi (fun mS aS wS => ∃ (c : Nat) (rs2 : List Rw), (c ≤ yl.length) ∧ (rs2.length = ns) ∧ (rs2 = (rs.set g ⟨some ⟨gy, 0, none⟩, yc, upd r0 yl c⟩)) ∧ mS = yl.length - c ∧ Fr aS 102 [] [(41, vI yl.length), (42, vI c), (28, .bool false), (14, .bool false), (6, vP gm 0), (5, vI 0), (4, vI 0), (3, vP g3 0)] ∧ Mem W wS (.blk g3 o.cells 52 :: fM gm cp cr (some ⟨ggA, 0, none⟩) ng gc lA nl lc uA nu uc tA nt tc (some ⟨gsA, 0, none⟩) ns sc :: fG (some ⟨ggA, 0, none⟩) ng gc gs :: fI lA nl lc cl :: fI uA nu uc cu :: fT tA nt tc ts :: fS (some ⟨gsA, 0, none⟩) ns sc rs2 :: (fR rs2 ++ (T)))) (m := yl.length - 0) ⟨0, rs, Nat.zero_le _, hls, by rw [qmc, ← hy]; exact (qb2 _ om).symm, rfl, I.sub kr, HM.pt 7 [0, 1, 2, 3, 4, 5, 6]⟩ ?_
 clear I HM; rintro mS a w_ ⟨c, rs2, hc, hl2, hr2, rfl, I, HM⟩
 refine Jb I HM ((JP∘Jp 1∘Jj∘JQ) (Ju (fun hb43 => ?_) fun hb43 => ?_))
 ·
  intro a I HM
  have hd43 := of_decide_eq_true hb43
  have hc43 : c < yl.length := by omega
  obtain ⟨yz, hyz⟩ : ∃ z, yl[c]? = some z := ⟨_, List.getElem?_eq_getElem om⟩
  have hyz2 := (qp3 r0 (Nat.le_refl c)).trans hyz
  have hyo := hys.2 yz (List.mem_of_getElem? hyz)
  rw [hgrd] at hyo
  have hyv := hyo.1.v; have hyr := hyo.1.r
  have hFo : (⟨yz.v, yz.r, zw⟩ : En).Ok := En.qda hyo.2 hzw hyo.1.v
  have hy2 : rs2.getD g Rw.zero = ⟨some ⟨gy, 0, none⟩, yc, upd r0 yl c⟩ := by rw [hr2]; exact qg _ _ om
  refine Jb I HM ((JT∘JS'∘JQ∘JB∘JP∘Jp 2∘Jd1∘Jj) fun a I HM => ?_)
  refine wp_seq ?_
  refine Jb I HM ((Vs .n []) fun wd9 => (Vp [0]∘Vf 4 3∘Vp [8]∘Vn 1∘Vf 2 6∘Vc 3 O1∘Vc 5 O0∘Vo (vI g) (by rw [hgg])∘Vy 6 (h:=by exact Yl.ix0 gsA g 1 rfl rfl rfl)∘Vy 7 (v := .slice ((rs2.getD g Rw.zero).A) ((rs2.getD g Rw.zero).l.length) ((rs2.getD g Rw.zero).c)) (h:=by exact Yl.r1 6 g Rw.zero om rfl rfl rfl)∘Vo (vS gy yl.length yc) (by rw [hy2]; show Value.slice _ (upd r0 yl c).length _ = _; rw [qp1])∘Vy 9 (h:=by exact Yl.ix0 gy c 3 rfl rfl rfl)∘Vp [10]∘Vd∘Jd6) fun a I HM => ?_)
  refine qy (fun aS wS => ∃ (g9 : Nat), Fr aS 102 [] [(9, vP g9 0), (8, vP gy (c * 3)), (7, vI c), (43, .bool true), (41, vI yl.length), (42, vI c), (28, .bool false), (14, .bool false), (6, vP gm 0), (5, vI 0), (4, vI 0), (3, vP g3 0)] ∧ Mem W wS (.blk g9 ((⟨yz.v, 0, z⟩ : En).cells) 117 :: .blk g3 o.cells 52 :: fM gm cp cr (some ⟨ggA, 0, none⟩) ng gc lA nl lc uA nu uc tA nt tc (some ⟨gsA, 0, none⟩) ns sc :: fG (some ⟨ggA, 0, none⟩) ng gc gs :: fI lA nl lc cl :: fI uA nu uc cu :: fT tA nt tc ts :: fS (some ⟨gsA, 0, none⟩) ns sc rs2 :: (fR rs2 ++ (T)))) ?_ ?_
  ·
   refine Jb I HM ((Vs .n [26]) fun wd10 => (Vp [0, 4, 8]∘Vf 13 3∘Vf 19 4∘Vn 1∘Vf 2 0∘Vy 3 (v := vQ yz.v) (h:=by exact Yl.qo rfl rfl kr (fun _ h => h.qat 7 (j := 0) rfl om hy2 (hyz2) rfl))∘Vn 5∘Vf 6 1∘Vy 7 (v := vW yz.r) (h:=by exact Yl.qo rfl rfl kr (fun _ h => h.qat 7 (j := 1) rfl om hy2 (hyz2) rfl))∘Vn 9∘Vf 10 0∘Vf 11 2∘Vc 12 O1∘Vc 14 O0∘Vo (vI g) (by rw [hgg])∘Vy 15 (h:=by exact Yl.ix0 ggA g 2 rfl rfl rfl)∘Vf 16 1∘Vy 17 (v := vI gr.weight) (h:=by exact Yl.qo rfl rfl kr (fun _ h => h.qq za (i := 2) rfl (k := g) (off := 1) (x := gr) (hgr) rfl))∘Vo (vI zw) (by rw [hzw])∘Vc 20 O0∘Vo (vI z) (by rw [hoz])) fun a I HM HS => ?_)
   refine qu [18, 25] kr rfl ?_
   refine all_cons ?_ ?_
   ·refine qk I (i := 18) rfl rfl ?_
    refine e_is I HM [vQ yz.v, vW yz.r, vI zw] (.agg #[vQ yz.v, vW yz.r, vW zw]) rfl rfl (q7 yz.v yz.r (zw : Int) om _) fun w74 hbw HM a I => ?_
    refine keepS (HM.pt 7 [0, 1, 2, 3, 4, 5, 6]) (fun HS => ?_)
    refine qu [21, 25] kr rfl ?_
    refine all_cons ?_ ?_
    ·refine qk I (i := 21) rfl rfl ?_
     refine e_is I HM [.agg #[vQ yz.v, vW yz.r, vW zw], vI z] (.tuple #[.agg ((⟨yz.v, 0, z⟩ : En).cells), vI 0]) rfl rfl (qbw (⟨yz.v, yz.r, zw⟩ : En) hFo z hz _) fun w77 hbw HM a I => ?_
     refine keepS (HM.pt 7 [0, 1, 2, 3, 4, 5, 6]) (fun HS => ?_)
     refine Vb I HM HS ((Vp [22]∘Vx 23∘Vx 24∘VA 25 .n #[vQ 0, vW 0, vW 0]) fun w9 g9 => fun a I HM HS => ?_)
     refine s_on I 26 rfl (e_sa I HM 0 rfl rfl rfl rfl rfl qp rfl rfl (qw (⟨yz.v, 0, z⟩ : En)) fun w10_26 HM => ?_)
     refine noS kr ?_
     refine ap I (pastS kr) [27] (bt 28 []) [] fun a I => ?_
     refine qb kr ?_
     exact ⟨g9, I.sub kr, HM.pt 8 [0, 1, 2, 3, 4, 5, 6, 7]⟩
    refine all_cons ?_ all_nil
    refine qk I (i := 25) rfl rfl ?_
    refine s_ea I HM #[vQ 0, vW 0, vW 0] ?_
    clear I HM; intro a w9 g9 I HM
    refine keepS (HM.pt 8 [1, 2, 3, 4, 5, 6, 7]) (fun HS => ?_)
    refine Vb I HM HS ((VI 21 (.f .n) (h:=by exact fun HM => qbw (⟨yz.v, yz.r, zw⟩ : En) hFo z hz _)) fun w77 hbw => (Vp [22]∘Vx 23∘Vx 24) fun a I HM HS => ?_)
    refine s_on I 26 rfl (e_sa I HM 0 rfl rfl rfl rfl rfl qp rfl rfl (qw (⟨yz.v, 0, z⟩ : En)) fun w10_26 HM => ?_)
    refine noS kr ?_
    refine ap I (pastS kr) [27] (bt 28 []) [] fun a I => ?_
    refine qb kr ?_
    exact ⟨g9, I.sub kr, HM.pt 8 [0, 1, 2, 3, 4, 5, 6, 7]⟩
   refine all_cons ?_ all_nil
   refine qk I (i := 25) rfl rfl ?_
   refine s_ea I HM #[vQ 0, vW 0, vW 0] ?_
   clear I HM; intro a w9 g9 I HM
   refine keepS (HM.pt 8 [1, 2, 3, 4, 5, 6, 7]) (fun HS => ?_)
   refine Vb I HM HS ((VI 18 (.f .n) (h:=by exact fun HM => q7 yz.v yz.r (zw : Int) om _)) fun w74 hbw => (VI 21 (.f .n) (h:=by exact fun HM => qbw (⟨yz.v, yz.r, zw⟩ : En) hFo z hz _)) fun w77 hbw => (Vp [22]∘Vx 23∘Vx 24) fun a I HM HS => ?_)
   refine s_on I 26 rfl (e_sa I HM 0 rfl rfl rfl rfl rfl qp rfl rfl (qw (⟨yz.v, 0, z⟩ : En)) fun w10_26 HM => ?_)
   refine noS kr ?_
   refine ap I (pastS kr) [27] (bt 28 []) [] fun a I => ?_
   refine qb kr ?_
   exact ⟨g9, I.sub kr, HM.pt 8 [0, 1, 2, 3, 4, 5, 6, 7]⟩
  clear I HM; rintro a w10 ⟨g9, I, HM⟩
  refine qgx HM [.blk g9 ((⟨yz.v, 0, z⟩ : En).cells) 117, .blk g3 o.cells 52, fM gm cp cr (some ⟨ggA, 0, none⟩) ng gc lA nl lc uA nu uc tA nt tc (some ⟨gsA, 0, none⟩) ns sc, fG (some ⟨ggA, 0, none⟩) ng gc gs, fI lA nl lc cl, fI uA nu uc cu, fT tA nt tc ts] [0, 1, 2, 3, 4, 5, 6] [11] fun HM HS => ?_
  refine ap I (fun _ => HS) [0, 1, 2, 4] (bf 12 [0, 1, 2, 4]) [(84, vP g9 1), (82, vP g9 0), (81, vP gy (c * 3)), (80, vP gy (c * 3))] fun a I => ?_
  refine s_ac I HS 3 0 (v := vQ ((⟨yz.v, 0, z⟩ : En).v)) fun a I => ?_
  refine s_ac I HS 5 0 (v := vW ((⟨yz.v, 0, z⟩ : En).r)) fun a I => ?_
  refine s_am I HS 6 fun a I => ?_
  refine ap I (fun _ => HS) [7] (bt 12 [8, 9, 10, 11]) [(87, vP gy (c * 3))] fun a I => ?_
  refine s_on I 8 rfl ?_
  refine q6 I HM 7 (c := c) 0 ({ yz with v := yz.v }) rfl rfl rfl rfl kr rfl rfl om (hy2) (hyz2) rfl de rfl fun w11_8 HM => ?_
  replace HM : Mem W w11_8 (.blk g9 ((⟨yz.v, 0, z⟩ : En).cells) 117 :: .blk g3 o.cells 52 :: fM gm cp cr (some ⟨ggA, 0, none⟩) ng gc lA nl lc uA nu uc tA nt tc (some ⟨gsA, 0, none⟩) ns sc :: fG (some ⟨ggA, 0, none⟩) ng gc gs :: fI lA nl lc cl :: fI uA nu uc cu :: fT tA nt tc ts :: fS (some ⟨gsA, 0, none⟩) ns sc (rsPut rs2 g c ({ yz with v := yz.v })) :: (fR (rsPut rs2 g c ({ yz with v := yz.v })) ++ (T))) := HM
  refine keepS (HM.pk [0, 1, 2, 3, 4, 5, 6]) (fun HS => ?_)
  refine s_an I (fun _ => HS) 9 fun a I => ?_
  refine ap I (fun _ => HS) [10] (bt 12 [11]) [(89, vP gy (c * 3 + 1))] fun a I => ?_
  refine s_on I 11 rfl ?_
  refine q6 I HM 7 (c := c) 1 (r0 yz) rfl rfl rfl rfl kr rfl rfl (by first | omega | (rw [qr]; omega)) (qeb om hy2) (qba hyz2) rfl de rfl fun w11_11 HM => ?_
  replace HM : Mem W w11_11 (.blk g9 ((⟨yz.v, 0, z⟩ : En).cells) 117 :: .blk g3 o.cells 52 :: fM gm cp cr (some ⟨ggA, 0, none⟩) ng gc lA nl lc uA nu uc tA nt tc (some ⟨gsA, 0, none⟩) ns sc :: fG (some ⟨ggA, 0, none⟩) ng gc gs :: fI lA nl lc cl :: fI uA nu uc cu :: fT tA nt tc ts :: fS (some ⟨gsA, 0, none⟩) ns sc (rsPut (rsPut rs2 g c ({ yz with v := yz.v })) g c (r0 yz)) :: (fR (rsPut (rsPut rs2 g c ({ yz with v := yz.v })) g c (r0 yz)) ++ (T))) := HM
  rw [qa9 (by first | omega | (rw [qr]; omega))] at HM
  refine noS kr ?_
  refine qb kr ?_
  refine Jb I HM ((JG∘JR∘JaK 1∘Jp 1∘Jd6∘Jq) fun a I HM => ?_)
  exact ⟨_, om, c + 1, (rsPut rs2 g c (r0 yz)), by omega, by rw [qr]; exact hl2, qju om hyz hr2, rfl, I.sub kr, HM.pt 8 [1, 2, 3, 4, 5, 6, 7]⟩
 intro a I HM
 have hd43 := of_decide_eq_false hb43
 refine Jb I HM ((JF∘JX) fun a I HM => ?_)
 refine wp_seq ?_
 refine Jb I HM ((Vs .n [11]) fun wd13 => (Vp [0]∘Vf 5 3∘Vf 7 4∘Vn 1∘Vf 2 0∘Vf 3 2∘Vc 4 O1∘Vc 6 O0∘Vo (vI g) (by rw [hgg])∘Vc 8 O0∘Vo (vI z) (by rw [hoz])∘Vu 9 (h:=by exact fun _ => Yl.ix0 ggA g 2 rfl rfl rfl)∘Vf 10 1) fun a I HM HS => ?_)
 refine s_on I 11 rfl ?_
 refine qv I HM (i := 2) rfl rfl rfl rfl kr rfl rfl (by rw [q8 grL 2 za]; omega) fun w13_11 HM => ?_
 replace HM := HM.asRow (i := 2) (ys := (gs.set g { gr with weight := (z : Int) }).flatMap grL) rfl (zc grL 2 za gs g gr { gr with weight := (z : Int) } hgr 1 de _ rfl)
 refine noS kr ?_
 refine qb kr ?_
 exact Jb I HM ((JP∘Jp 2∘Jj∘JZ∘Jz2) fun HM => by exact qs (y := (⟨cp, cr, some ⟨ggA, 0, none⟩, gc, (gs.set g { gr with weight := (z : Int) }), lA, lc, cl, uA, uc, cu, tA, tc, ts, some ⟨gsA, 0, none⟩, sc, rs2⟩ : Stm)) 1 HM rfl ⟨by show (gs.set _ _).length = ng; rw [List.length_set]; exact hlg, hlns.l, hlns.u, hlns.t, hl2⟩ ((qf5 (x := (⟨cp, cr, some ⟨ggA, 0, none⟩, gc, gs, lA, lc, cl, uA, uc, cu, tA, tc, ts, some ⟨gsA, 0, none⟩, sc, rs⟩ : Stm)) hgg hgb (decide_eq_true hd28) hy hgrd).trans (by rw [hoz]; exact congrArg (fun r => (Stm.sta (⟨cp, cr, some ⟨ggA, 0, none⟩, gc, (gs.set g { gr with weight := (z : Int) }), lA, lc, cl, uA, uc, cu, tA, tc, ts, some ⟨gsA, 0, none⟩, sc, r⟩ : Stm), (0 : Int), 0)) (show _ = rs2 by rw [hr2, qp2 r0 yl om]))))
theorem qnx (W w : World) (x : Stm) (gm k to : Nat) (t : Tk) (ng nl nu nt ns : Nat) (hx : MdOk x ng nl nu nt ns) (ht : x.ts[k]? = some t) (hto_ : (to : Int) < x.cpus) (T : List Fact) (HM : Mem W w (mdA gm x ng nl nu nt ns ++ T)) :
    Calls Tryz.prog 95 #[vP gm 0, vI k, vI to] w (StIs W gm T (moveS x.sta k (to : Int))) := by
 obtain ⟨cp, cr, gA, gc, gs, lA, lc, cl, uA, uc, cu, tA, tc, ts, sA, sc, rs⟩ := x
 replace HM : Mem W w (fM gm cp cr gA ng gc lA nl lc uA nu uc tA nt tc sA ns sc :: fG gA ng gc gs :: fI lA nl lc cl :: fI uA nu uc cu :: fT tA nt tc ts :: fS sA ns sc rs :: (fR rs ++ (T))) := HM
 obtain ⟨hlg, hll, hlu, hlt, hls⟩ := hx.ln
 replace hlg : gs.length = ng := hlg; replace hll : cl.length = nl := hll; replace hlu : cu.length = nu := hlu; replace hlt : ts.length = nt := hlt; replace hls : rs.length = ns := hls
 have hlns := hx.ln
 have hsp : SpsOk gs cp rs := hx.spots
 have hrg : rs.length = gs.length := hx.sh.rs
 have hcr : cr < 18446744073709551616 := hx.ok.credit
 obtain ⟨hcp1, hcp2, _, hgs⟩ := zf hx.sh.cfg
 replace hcp1 : 1 ≤ cp := hcp1; replace hcp2 : cp ≤ 64 := hcp2; replace hgs : gsOk gs = true := hgs
 have hgl1 := (qh hgs).1; have hgl2 := (qh hgs).2.1
 have hcll : (cl.length : Int) = cp := hx.sh.cl; have hcul : (cu.length : Int) = cp := hx.sh.cu
 have hfts : ts.length ≤ 1000000 := hx.few.t
 replace ht : ts[k]? = some t := ht; replace hto_ : (to : Int) < cp := hto_
 have hkl := (List.getElem?_eq_some_iff.1 ht).1
 obtain ⟨htg, hto⟩ := hx.task ht
 have hti := htg.id; have htgr := htg.group; have htc := htg.cpu; have htw := htg.weight; have htv := hto.v; have htr := hto.r; have htm := hto.mask
 replace htc : 0 ≤ t.cpu ∧ t.cpu < cp := htc
 obtain ⟨gt, hgt⟩ : ∃ n : Nat, t.group = (n : Int) := ⟨t.group.toNat, by omega⟩
 obtain ⟨ct, hct⟩ : ∃ n : Nat, t.cpu = (n : Int) := ⟨t.cpu.toNat, by omega⟩
 obtain ⟨wt, hwt⟩ : ∃ n : Nat, t.weight = (n : Int) := ⟨t.weight.toNat, by omega⟩
 have hEo : (⟨t.v, t.r, wt⟩ : En).Ok := En.qda htg.ent hwt htv
 obtain ⟨gsA, rfl⟩ := qe (HM.own (i := 5) rfl) om
 obtain ⟨gtA, rfl⟩ := qe (HM.own (i := 4) rfl) om
 obtain ⟨em, hem⟩ : ∃ l, q5 (⟨cp, cr, gA, gc, gs, lA, lc, cl, uA, uc, cu, some ⟨gtA, 0, none⟩, tc, ts, some ⟨gsA, 0, none⟩, sc, rs⟩ : Stm).sta gt to = l := ⟨_, rfl⟩
 have hemm := fun h hh => qie (x := (⟨cp, cr, gA, gc, gs, lA, lc, cl, uA, uc, cu, some ⟨gtA, 0, none⟩, tc, ts, some ⟨gsA, 0, none⟩, sc, rs⟩ : Stm)) hx (by omega : gt < ns) hem h hh
 have hemn := qge (x := (⟨cp, cr, gA, gc, gs, lA, lc, cl, uA, uc, cu, some ⟨gtA, 0, none⟩, tc, ts, some ⟨gsA, 0, none⟩, sc, rs⟩ : Stm)) hx (by omega : gt < ns) hem
 obtain ⟨⟨yA, yc, yl⟩, hy⟩ : ∃ y, rs.getD gt Rw.zero = y := ⟨_, rfl⟩
 have hys := hsp gt om; rw [hy] at hys
 have hyl : (yl.length : Int) = cp := hys.1
 obtain ⟨gy, rfl⟩ := HM.rwSome 6 rfl om hy om
 obtain ⟨yz, hyz⟩ : ∃ z, yl[ct]? = some z := ⟨_, List.getElem?_eq_getElem om⟩
 have hyo := hys.2 yz (List.mem_of_getElem? hyz)
 have hyv := hyo.1.v; have hyr := hyo.1.r; have hyf := hyo.1.floor
 obtain ⟨z2, hz2⟩ : ∃ z, yl[to]? = some z := ⟨_, List.getElem?_eq_getElem om⟩
 have hzf := (hys.2 z2 (List.mem_of_getElem? hz2)).1.floor
 obtain ⟨e, hew⟩ : ∃ e, (⟨t.v, t.r, wt⟩ : En).moved yz.floor z2.floor = e := ⟨_, rfl⟩
 have heo : e.Ok ∧ e.w = wt := by rw [← hew]; exact En.qi2 hEo _ _ hzf
 have hev := heo.1.2; have her := qbu heo.1.1
 have hmo := qs0 (x := (⟨cp, cr, gA, gc, gs, lA, lc, cl, uA, uc, cu, some ⟨gtA, 0, none⟩, tc, ts, some ⟨gsA, 0, none⟩, sc, rs⟩ : Stm)) (to := to) ht hgt hct hwt (qag (x := (⟨cp, cr, gA, gc, gs, lA, lc, cl, uA, uc, cu, some ⟨gtA, 0, none⟩, tc, ts, some ⟨gsA, 0, none⟩, sc, rs⟩ : Stm)) (by show gt < rs.length; omega) hy hyz) (qag (x := (⟨cp, cr, gA, gc, gs, lA, lc, cl, uA, uc, cu, some ⟨gtA, 0, none⟩, tc, ts, some ⟨gsA, 0, none⟩, sc, rs⟩ : Stm)) (by show gt < rs.length; omega) hy hz2) hew hem
 refine (Jin3 HM Tryz.func95 81) ?_
 refine (JP∘Jp 1∘Jn∘Jf 0∘Jg 5 O0∘Jp 1∘Jy (h:=by exact Yl.ix0 gtA k 8 rfl rfl rfl)∘Jp 1∘Jd6∘Jr∘Jp 2∘Jn∘Jf 1∘Jy (v := vI t.group) (h:=by exact Yl.qo rfl rfl kr (fun _ h => h.qq qd (i := 4) rfl (k := k) (off := 1) (x := t) (ht) rfl))∘Jo (vI gt) (by rw [hgt])∘Jp 1∘JK (h:=by exact fun HM => qid 0 HM rfl hx (by show ((to : Nat) : Int) < cp; omega) om hem)) fun A24 c24 w24 hc24 => (Jp 1∘Jd6∘Jj) fun a I HM => ?_
 refine wp_seq ?_
 refine Jb I HM ((Vs .n []) fun wd2 => (Vp [0, 5]∘Vn 1∘Vf 2 0∘Vf 3 6∘Vc 4 O1∘Vn 6∘Vf 7 1∘Vy 8 (v := vI t.group) (h:=by exact Yl.qo rfl rfl kr (fun _ h => h.qq qd (i := 5) rfl (k := k) (off := 1) (x := t) (ht) rfl))∘Vo (vI gt) (by rw [hgt])∘Vy 9 (h:=by exact Yl.ix0 gsA gt 1 rfl rfl rfl)∘Vy 10 (v := .slice ((rs.getD gt Rw.zero).A) ((rs.getD gt Rw.zero).l.length) ((rs.getD gt Rw.zero).c)) (h:=by exact Yl.r1 6 gt Rw.zero om rfl rfl rfl)∘Vo (vS gy yl.length yc) (by rw [hy])∘Vp [11]∘Vd∘Jd6) fun a I HM => ?_)
 refine qy (fun aS wS => ∃ (g9 : Nat), Fr aS 81 [] [(9, vP g9 0), (7, .slice A24 em.length c24), (6, vP gtA (k * 8)), (0, vP gm 0), (2, vI to)] ∧ Mem W wS (.blk g9 e.cells 117 :: .row (.slice A24 em.length c24) em.length (em.map I64v) 3 1 :: fM gm cp cr gA ng gc lA nl lc uA nu uc (some ⟨gtA, 0, none⟩) nt tc (some ⟨gsA, 0, none⟩) ns sc :: fG gA ng gc gs :: fI lA nl lc cl :: fI uA nu uc cu :: fT (some ⟨gtA, 0, none⟩) nt tc ts :: fS (some ⟨gsA, 0, none⟩) ns sc rs :: (fR rs ++ (T)))) ?_ ?_
 ·
  refine Jb I HM ((Vs .n [31]) fun wd3 => (Vp [0, 4, 8, 13, 14, 21, 22]∘Vn 1∘Vf 2 6∘Vy 3 (v := vQ t.v) (h:=by exact Yl.qo rfl rfl kr (fun _ h => h.qq qd (i := 5) rfl (k := k) (off := 6) (x := t) (ht) rfl))∘Vn 5∘Vf 6 7∘Vy 7 (v := vW t.r) (h:=by exact Yl.qo rfl rfl kr (fun _ h => h.qq qd (i := 5) rfl (k := k) (off := 7) (x := t) (ht) rfl))∘Vn 9∘Vf 10 2∘Vy 11 (v := vI t.weight) (h:=by exact Yl.qo rfl rfl kr (fun _ h => h.qq qd (i := 5) rfl (k := k) (off := 2) (x := t) (ht) rfl))∘Vo (vI wt) (by rw [hwt])∘Vn 15∘Vf 16 3∘Vy 17 (v := vI t.cpu) (h:=by exact Yl.qo rfl rfl kr (fun _ h => h.qq qd (i := 5) rfl (k := k) (off := 3) (x := t) (ht) rfl))∘Vo (vI ct) (by rw [hct])∘Vy 18 (h:=by exact Yl.ix0 gy ct 3 rfl rfl rfl)∘Vf 19 2∘Vy 20 (v := vQ yz.floor) (h:=by exact Yl.qo rfl rfl kr (fun _ h => h.qat 7 (j := 2) rfl om hy (hyz) rfl))∘Vy 23 (h:=by exact Yl.ix0 gy to 3 rfl rfl rfl)∘Vf 24 2∘Vy 25 (v := vQ z2.floor) (h:=by exact Yl.qo rfl rfl kr (fun _ h => h.qat 7 (j := 2) rfl om hy (hz2) rfl))) fun a I HM HS => ?_)
  refine qu [12, 30] kr rfl ?_
  refine all_cons ?_ ?_
  ·refine qk I (i := 12) rfl rfl ?_
   refine e_is I HM [vQ t.v, vW t.r, vI wt] (.agg #[vQ t.v, vW t.r, vW wt]) rfl rfl (q7 t.v t.r (wt : Int) om _) fun w49 hbw HM a I => ?_
   refine keepS (HM.pt 7 [0, 1, 2, 3, 4, 5, 6]) (fun HS => ?_)
   refine qu [26, 30] kr rfl ?_
   refine all_cons ?_ ?_
   ·refine qk I (i := 26) rfl rfl ?_
    refine e_is I HM [.agg #[vQ t.v, vW t.r, vW wt], vQ yz.floor, vQ z2.floor] (.tuple #[.agg e.cells, vI 0]) rfl rfl (qig (⟨t.v, t.r, wt⟩ : En) e hEo yz.floor z2.floor hyf hzf hew _) fun w63 hbw HM a I => ?_
    refine keepS (HM.pt 7 [0, 1, 2, 3, 4, 5, 6]) (fun HS => ?_)
    refine Vb I HM HS ((Vp [27]∘Vx 28∘Vx 29∘VA 30 .n #[vQ 0, vW 0, vW 0]) fun w9 g9 => fun a I HM HS => ?_)
    refine s_on I 31 rfl (e_sa I HM 0 rfl rfl rfl rfl rfl qp rfl rfl (qw e) fun w3_31 HM => ?_)
    refine noS kr ?_
    refine ap I (pastS kr) [32] (bt 33 []) [] fun a I => ?_
    refine qb kr ?_
    exact ⟨g9, I.sub kr, HM.pt 8 [0, 1, 2, 3, 4, 5, 6, 7]⟩
   refine all_cons ?_ all_nil
   refine qk I (i := 30) rfl rfl ?_
   refine s_ea I HM #[vQ 0, vW 0, vW 0] ?_
   clear I HM; intro a w9 g9 I HM
   refine keepS (HM.pt 8 [1, 2, 3, 4, 5, 6, 7]) (fun HS => ?_)
   refine Vb I HM HS ((VI 26 (.f .n) (h:=by exact fun HM => qig (⟨t.v, t.r, wt⟩ : En) e hEo yz.floor z2.floor hyf hzf hew _)) fun w63 hbw => (Vp [27]∘Vx 28∘Vx 29) fun a I HM HS => ?_)
   refine s_on I 31 rfl (e_sa I HM 0 rfl rfl rfl rfl rfl qp rfl rfl (qw e) fun w3_31 HM => ?_)
   refine noS kr ?_
   refine ap I (pastS kr) [32] (bt 33 []) [] fun a I => ?_
   refine qb kr ?_
   exact ⟨g9, I.sub kr, HM.pt 8 [0, 1, 2, 3, 4, 5, 6, 7]⟩
  refine all_cons ?_ all_nil
  refine qk I (i := 30) rfl rfl ?_
  refine s_ea I HM #[vQ 0, vW 0, vW 0] ?_
  clear I HM; intro a w9 g9 I HM
  refine keepS (HM.pt 8 [1, 2, 3, 4, 5, 6, 7]) (fun HS => ?_)
  refine Vb I HM HS ((VI 12 (.f .n) (h:=by exact fun HM => q7 t.v t.r (wt : Int) om _)) fun w49 hbw => (VI 26 (.f .n) (h:=by exact fun HM => qig (⟨t.v, t.r, wt⟩ : En) e hEo yz.floor z2.floor hyf hzf hew _)) fun w63 hbw => (Vp [27]∘Vx 28∘Vx 29) fun a I HM HS => ?_)
  refine s_on I 31 rfl (e_sa I HM 0 rfl rfl rfl rfl rfl qp rfl rfl (qw e) fun w3_31 HM => ?_)
  refine noS kr ?_
  refine ap I (pastS kr) [32] (bt 33 []) [] fun a I => ?_
  refine qb kr ?_
  exact ⟨g9, I.sub kr, HM.pt 8 [0, 1, 2, 3, 4, 5, 6, 7]⟩
 clear I HM; rintro a w3 ⟨g9, I, HM⟩
 refine Jb I HM ((JP∘Jp 1∘Jy (v := .agg e.cells) (h:=by exact Yl.loadS rfl rfl qp rfl (fun _ h => qa (h.blk (i := 0) rfl)))∘JO (h:=by exact fun HM => ql9 t e O6' HM ht hlt heo.1)) fun w68 => (Jt3∘Jr∘Jp 2∘Jn∘Jf 3) fun a I HM => ?_)
 refine fo I 4 rfl rfl ?_
 refine qv I HM (i := 6) rfl rfl rfl rfl kr rfl rfl (by rw [q8 tkL 8 qd, List.length_set]; omega) fun w5_4 HM => ?_
 replace HM := HM.asRow (i := 6) (ys := (ts.set k { t.put e with cpu := (to : Int) }).flatMap tkL) rfl ((zc tkL 8 qd (ts.set k (t.put e)) k (t.put e) { t.put e with cpu := (to : Int) } (qba ht) 3 de _ rfl).trans (by rw [List.set_set]))
 refine Jb I HM ((Jt4∘Jr∘Jp 1∘Jn∘Jf 5∘Jy (v := .bool (({ t.put e with cpu := (to : Int) } : Tk).ready)) (h:=by exact Yl.qo rfl rfl kr (fun _ h => h.qq qd (i := 6) rfl (k := k) (off := 5) (x := ({ t.put e with cpu := (to : Int) } : Tk)) ((qba ht)) rfl))∘Jo (.bool t.ready) (by exact rfl)∘Jd3∘Jj) (Ju (fun hb76 => ?_) fun hb76 => ?_))
 ·
  refine (JT∘JR∘Jp 3∘JL (h:=by exact fun HM => qif 2 HM rfl (j := 1) rfl de (qec (ts' := ts.set k { t.put e with cpu := (to : Int) }) hlns (by rw [List.length_set]; exact hlt)) (hemm) (hemn) hgs hrg hsp hcr hcp2 (by show ((to : Nat) : Int) < cp; omega))) ?_
  rintro HM _ w80 ⟨rs2, rfl, hl2, hsp2, hst2, HM2⟩
  refine ⟨_, rfl, _, (show Mem W w80 (.blk g9 e.cells 117 :: .row (.slice A24 em.length c24) em.length (em.map I64v) 3 1 :: fM gm cp cr gA ng gc lA nl lc uA nu uc (some ⟨gtA, 0, none⟩) nt tc (some ⟨gsA, 0, none⟩) ns sc :: fG gA ng gc gs :: fI lA nl lc cl :: fI uA nu uc cu :: fT (some ⟨gtA, 0, none⟩) nt tc (ts.set k { t.put e with cpu := (to : Int) }) :: fS (some ⟨gsA, 0, none⟩) ns sc rs2 :: (fR rs2 ++ (T))) from HM2), ?_⟩
  refine (Jt4∘Jq) fun a I HM => ?_
  exact norm0 rfl I (qp4 (y := (⟨cp, cr, gA, gc, gs, lA, lc, cl, uA, uc, cu, some ⟨gtA, 0, none⟩, tc, (ts.set k { t.put e with cpu := (to : Int) }), some ⟨gsA, 0, none⟩, sc, rs2⟩ : Stm)) 2 HM rfl (qma (qec hlns (by rw [List.length_set]; exact hlt)) hl2) (by rw [hmo, if_pos hb76]; exact hst2))
 refine (JF∘JS) fun a I HM => ?_
 exact norm0 rfl I (qp4 (y := (⟨cp, cr, gA, gc, gs, lA, lc, cl, uA, uc, cu, some ⟨gtA, 0, none⟩, tc, (ts.set k { t.put e with cpu := (to : Int) }), some ⟨gsA, 0, none⟩, sc, rs⟩ : Stm)) 2 HM rfl (qec hlns (by rw [List.length_set]; exact hlt)) (by rw [hmo, if_neg (nt' hb76)]))
theorem qqn {W w : World} {F T : List Fact} {x : Stm} {ng nl nu nt ns gm k to : Nat} {t : Tk} (n : Nat) (HM : Mem W w F) (he : F.drop n = mdA gm x ng nl nu nt ns ++ T) (hx : MdOk x ng nl nu nt ns) (ht : x.ts[k]? = some t) (hto : (to : Int) < x.cpus) :
  Calls Tryz.prog 95 #[vP gm 0, vI k, vI to] w (fun r w' => ∃ y : Stm, r = .returned (.tuple #[]) ∧ y.sta = moveS x.sta k (to : Int) ∧ Mem W w' (F.take n ++ (mdB gm y ++ T))) :=
 (qnx W w x gm k to t ng nl nu nt ns hx ht hto (F.take n ++ T) (HM.front n he)).mono fun r w' ⟨y, h1, h2, h3⟩ => ⟨y, h1, h2, h3.back⟩
theorem qny (A : Option Addr) (c : Nat) (l : List Int) (v : Int) (w : World) (hr : Rd w w.heap.size 1 A l.length (l.map I64i)) (hn : l.length ≤ 1000000) :
    Calls Tryz.prog 125 #[.slice A l.length c, vI v] w (IdxIs w l v) := by
 refine (JN2 Tryz.func125 19) ?_
 refine (JP∘Jp 1∘Jj∘JQ∘JP∘Jp 1∘Jl∘Jp 1∘Jj∘JB) fun a I HM => ?_
 refine qi (fun mS aS wS => ∃ (k : Nat), (k ≤ l.length) ∧ (∀ i, i < k → l.getD i 0 ≠ v) ∧ mS = l.length - k ∧ Fr aS 19 [] [(8, vI k), (7, vI l.length), (4, vI 0), (0, .slice A l.length c), (1, vI v)] ∧ Mem w wS []) (m := l.length - 0) ⟨0, Nat.zero_le _, fun i h => by omega, rfl, I.sub kr, HM.pk []⟩ ?_
 clear I HM; rintro mS a w_ ⟨k, hk, hu, rfl, I, HM⟩
 refine Jb I HM ((JP∘Jp 1∘Jj∘JQ) (Ju (fun hb9 => ?_) fun hb9 => ?_))
 ·
  intro a I HM
  have hd9 := of_decide_eq_true hb9
  have hk9 : k < l.length := by omega
  refine Jb I HM ((JT∘JS'∘JQ∘JB∘JP∘Jp 2∘Jd1∘Jr∘Jp 3) ?_)
  repeat (first | clear I | clear HM)
  intro a I HM
  obtain ⟨gA, oA, rfl, _⟩ := hr.qt (Nat.lt_of_le_of_lt (Nat.zero_le _) (show k < l.length from by omega)) de
  refine Jb I HM ((Jy (h:=by exact Yl.ix gA oA k 1 rfl rfl rfl)∘Jy (h:=by exact Yl.o1 hr k 0 om rfl rfl)∘Jp 1∘Jd5∘Jj) (Je (fun hd16 => ?_) fun hd16 => ?_))
  ·
   exact (JT∘JP∘Jp 2∘Jd1∘Jj∘JZ∘Jz1) fun HM => qnv hk9 hd16.symm HM.below
  refine (JF∘JS'∘JR∘JaK 1∘Jp 1∘Jd1∘Jq) fun a I HM => ?_
  exact ⟨_, om, k + 1, by omega, qvp hu (fun h => hd16 h.symm), rfl, I.sub kr, HM.pk []⟩
 intro a I HM
 have hd9 := of_decide_eq_false hb9
 exact Jb I HM ((JF∘JX∘JG∘JP∘Jp 1∘Jj∘JZ∘Jz1) fun HM => qnw (fun i hi => hu i om) HM.below)
theorem qii (A : Option Addr) (c : Nat) (l : List Int) (v : Int) (w : World) (hr : Rd w w.heap.size 1 A l.length (l.map I64i)) (hn : l.length ≤ 1000000) :
    Calls Tryz.prog 94 #[.slice A l.length c, vI v] w (Is w (.bool (decide (v ∈ l)))) := by
 refine (JN2 Tryz.func94 9) ?_
 refine (JP∘Jp 1∘Jr∘Jp 2∘JL (h:=by exact fun HM => qny A c l v _ (HM.old hr) hn)) ?_
 rintro HM _ w7 ⟨⟨i, rfl, he⟩, hbw⟩
 refine ⟨_, rfl, _, HM.call hbw, ?_⟩
 exact (Jp 2∘Jd4∘Jj∘JZ∘Jz1) fun HM => is_as he HM.below
theorem qk9 {w : World} {A : Option Addr} {c n : Nat} {l : List Int} {v : Int} (hl : l.length = n) (hr : Rd w w.heap.size 1 A n (l.map I64i)) (hn : l.length ≤ 1000000) : Calls Tryz.prog 94 #[.slice A n c, vI v] w (Is w (.bool (decide (v ∈ l)))) := by
 subst hl
 exact qii A c l v w hr hn
theorem qij (W w : World) (x : Stm) (gm : Nat) (ng nl nu nt ns : Nat) (hx : MdOk x ng nl nu nt ns) (o : Op30) (ho : o.Ok) (T : List Fact) (HM : Mem W w (mdA gm x ng nl nu nt ns ++ T)) :
    Calls Tryz.prog 38 #[vP gm 0, .agg o.cells] w (OpIs W gm T (qad x.sta o)) := by
 obtain ⟨cp, cr, gA, gc, gs, lA, lc, cl, uA, uc, cu, tA, tc, ts, sA, sc, rs⟩ := x
 replace HM : Mem W w (fM gm cp cr gA ng gc lA nl lc uA nu uc tA nt tc sA ns sc :: fG gA ng gc gs :: fI lA nl lc cl :: fI uA nu uc cu :: fT tA nt tc ts :: fS sA ns sc rs :: (fR rs ++ (T))) := HM
 obtain ⟨hlg, hll, hlu, hlt, hls⟩ := hx.ln
 replace hlg : gs.length = ng := hlg; replace hll : cl.length = nl := hll; replace hlu : cu.length = nu := hlu; replace hlt : ts.length = nt := hlt; replace hls : rs.length = ns := hls
 have hlns := hx.ln
 have hsp : SpsOk gs cp rs := hx.spots
 have hrg : rs.length = gs.length := hx.sh.rs
 have hcr : cr < 18446744073709551616 := hx.ok.credit
 obtain ⟨hcp1, hcp2, _, hgs⟩ := zf hx.sh.cfg
 replace hcp1 : 1 ≤ cp := hcp1; replace hcp2 : cp ≤ 64 := hcp2; replace hgs : gsOk gs = true := hgs
 have hgl1 := (qh hgs).1; have hgl2 := (qh hgs).2.1
 have hcll : (cl.length : Int) = cp := hx.sh.cl; have hcul : (cu.length : Int) = cp := hx.sh.cu
 have hfts : ts.length ≤ 1000000 := hx.few.t
 have hoc := ho.cpu; have hot := ho.task; have hog := ho.group; have how := ho.weight; have hoto := ho.to; have hotk := ho.ticks; have hom := ho.mask; have hok8 := ho.kind; unfold I64 at hoc hot hog how hoto hotk
 obtain ⟨guA, rfl⟩ := qe (HM.own (i := 3) rfl) om
 refine (Jin2 HM Tryz.func38 67) ?_
 refine (JP∘JE) fun w3 g3 => (Jp 2∘Jj∘JQ∘JB∘JP∘Jp 1∘Jg 5 O0∘JI (h:=by exact fun HM => qhb 1 HM rfl hx o.to)) fun w11 hbw => (Jp 2∘Jd4∘Jj) (Ju (fun hb7 => ?_) fun hb7 => ?_)
 ·
  intro a I HM
  have hd7 := of_decide_eq_false ((Bool.not_eq_true' _).mp hb7)
  exact Jb I HM ((JT∘JP∘Jp 2∘Jj∘JZ∘Jz2) fun HM => by exact qs (y := (⟨cp, cr, gA, gc, gs, lA, lc, cl, some ⟨guA, 0, none⟩, uc, cu, tA, tc, ts, sA, sc, rs⟩ : Stm)) 1 HM rfl hlns (if_pos (decide_eq_false hd7)))
 intro a I HM
 have hd7 := of_decide_eq_true ((Bool.not_eq_false' _).mp hb7)
 replace hd7 : 0 ≤ o.to ∧ o.to < cp := hd7
 obtain ⟨c, hcc⟩ : ∃ n : Nat, o.to = (n : Int) := ⟨o.to.toNat, by omega⟩
 have hccp : ((c : Nat) : Int) < cp := by omega
 have hfcu : cu.length ≤ 1000000 := hx.few.u
 refine Jb I HM ((JF∘JP∘Jg 2 O0∘JI (h:=by exact fun HM => qfg o.task _)) fun w16 hbw => (Jp 2∘Jd3∘Jj) (Ju (fun hb13 => ?_) fun hb13 => ?_))
 ·
  intro a I HM
  have hd13 := of_decide_eq_false ((Bool.not_eq_true' _).mp hb13)
  exact Jb I HM ((JT∘JP∘Jp 2∘Jj∘JZ∘Jz2) fun HM => by exact qs (y := (⟨cp, cr, gA, gc, gs, lA, lc, cl, some ⟨guA, 0, none⟩, uc, cu, tA, tc, ts, sA, sc, rs⟩ : Stm)) 1 HM rfl hlns ((if_neg (nf (decide_eq_true hd7))).trans (if_pos (decide_eq_false hd13))))
 intro a I HM
 have hd13 := of_decide_eq_true ((Bool.not_eq_false' _).mp hb13)
 refine Jb I HM ((JF∘JS'∘JP∘Jp 1∘Jg 2 O0∘JI (h:=by exact fun HM => qea 1 HM rfl hx o.task)) fun w21 hbw => (Jp 1∘Jd3∘Jj∘JQ∘JB∘JP∘Jp 3∘Jd2∘Jj) (Ju (fun hb22 => ?_) fun hb22 => ?_))
 ·
  intro a I HM
  have hd22 := of_decide_eq_true hb22
  exact Jb I HM ((JT∘JP∘Jp 2∘Jj∘JZ∘Jz2) fun HM => by exact qs (y := (⟨cp, cr, gA, gc, gs, lA, lc, cl, some ⟨guA, 0, none⟩, uc, cu, tA, tc, ts, sA, sc, rs⟩ : Stm)) 1 HM rfl hlns ((if_neg (nf (decide_eq_true hd7))).trans ((if_neg (nf (decide_eq_true hd13))).trans (if_pos (hd22)))))
 intro a I HM
 have hd22 := of_decide_eq_false hb22
 obtain ⟨k, t, hk, ht, hkl, hkid⟩ := qco hd22
 replace hk : fidx ts o.task = (k : Int) := hk; replace ht : ts[k]? = some t := ht; replace hkl : k < ts.length := hkl
 obtain ⟨htg, hto⟩ := hx.task ht
 have hti := htg.id; have htgr := htg.group; have htc := htg.cpu; have htw := htg.weight; have htv := hto.v; have htr := hto.r; have htm := hto.mask
 replace htc : 0 ≤ t.cpu ∧ t.cpu < cp := htc
 obtain ⟨gt, hgt⟩ : ∃ n : Nat, t.group = (n : Int) := ⟨t.group.toNat, by omega⟩
 obtain ⟨ct, hct⟩ : ∃ n : Nat, t.cpu = (n : Int) := ⟨t.cpu.toNat, by omega⟩
 obtain ⟨wt, hwt⟩ : ∃ n : Nat, t.weight = (n : Int) := ⟨t.weight.toNat, by omega⟩
 have hEo : (⟨t.v, t.r, wt⟩ : En).Ok := En.qda htg.ent hwt htv
 revert HM; revert a; repeat (first | clear I | clear HM)
 intro a I HM
 obtain ⟨gtA, rfl⟩ := qe (HM.own (i := 5) rfl) (Nat.lt_of_le_of_lt (Nat.zero_le _) (show k < nt from (by omega : k < nt)))
 refine Jb I HM ((JF) fun a I HM => ?_)
 refine wp_seq ?_
 refine Jb I HM ((Vs .n []) fun wd8 => (Vp [0]∘Vf 5 2∘Vn 1∘Vf 2 0∘Vf 3 4∘Vc 4 O1∘Vc 6 O0∘VI 7 .n (h:=by exact fun HM => qk9 hlu (HM.rd (i := 4) rfl) hfcu)) fun w33 hbw => (Vp [8]∘Vd∘Jd6) (Ji (fun hd25 => ?_) fun hd25 => ?_))
 ·
  exact (JT∘JP∘Jp 2∘Jj∘JZ∘Jz2) fun HM => by exact qs (y := (⟨cp, cr, gA, gc, gs, lA, lc, cl, some ⟨guA, 0, none⟩, uc, cu, some ⟨gtA, 0, none⟩, tc, ts, sA, sc, rs⟩ : Stm)) 1 HM rfl hlns ((if_neg (nf (decide_eq_true hd7))).trans ((if_neg (nf (decide_eq_true hd13))).trans ((if_neg (by show ¬ fidx ts o.task < 0; rw [hk]; omega)).trans (if_pos (hd25)))))
 refine (JF) fun a I HM => ?_
 refine wp_seq ?_
 refine Jb I HM ((Vs .n []) fun wd10 => (Vp [0]∘Vf 9 5∘Vn 1∘Vf 2 0∘Vf 3 5∘Vc 4 O1∘Vp [5]∘Vo (vI k) (by rw [hk])∘Vy 6 (h:=by exact Yl.ix0 gtA k 8 rfl rfl rfl)∘Vf 7 3∘Vy 8 (v := vI t.cpu) (h:=by exact Yl.qo rfl rfl kr (fun _ h => h.qq qd (i := 5) rfl (k := k) (off := 3) (x := t) (ht) rfl))∘Vc 10 O0∘Vp [11, 12]∘Vd∘Jd6) (Ju (fun hb34 => ?_) fun hb34 => ?_))
 ·
  intro a I HM
  have hd34 := eq_of_beq hb34
  exact Jb I HM ((JT∘JP∘Jp 2∘Jj∘JZ∘Jz2) fun HM => by exact qs (y := (⟨cp, cr, gA, gc, gs, lA, lc, cl, some ⟨guA, 0, none⟩, uc, cu, some ⟨gtA, 0, none⟩, tc, ts, sA, sc, rs⟩ : Stm)) 1 HM rfl hlns ((if_neg (nf (decide_eq_true hd7))).trans ((if_neg (nf (decide_eq_true hd13))).trans ((if_neg (by show ¬ fidx ts o.task < 0; rw [hk]; omega)).trans ((if_neg (hd25)).trans (if_pos (by rw [qah (s := Stm.sta (⟨cp, cr, gA, gc, gs, lA, lc, cl, some ⟨guA, 0, none⟩, uc, cu, some ⟨gtA, 0, none⟩, tc, ts, sA, sc, rs⟩ : Stm)) hk ht]; exact hd34)))))))
 intro a I HM
 have hd34 := ne_of_beq_false hb34
 have hmb := Nat.div_le_self t.mask (2 ^ c)
 refine Jb I HM ((JF) fun a I HM => ?_)
 refine wp_seq ?_
 refine Jb I HM ((Vs .n []) fun wd12 => (Vp [0]∘Vf 9 5∘Vn 1∘Vf 2 0∘Vf 3 5∘Vc 4 O1∘Vp [5]∘Vo (vI k) (by rw [hk])∘Vy 6 (h:=by exact Yl.ix0 gtA k 8 rfl rfl rfl)∘Vf 7 4∘Vy 8 (v := vQ t.mask) (h:=by exact Yl.qo rfl rfl kr (fun _ h => h.qq qd (i := 5) rfl (k := k) (off := 4) (x := t) (ht) rfl))∘Vc 10 O0∘Vo (vI c) (by rw [hcc])∘Vy 11 (v := vQ (t.mask / 2 ^ c : Nat)) (h:=by exact Yl.shrN (m := t.mask) (n := c) rfl rfl rfl (by show _ ≤ 64; omega))∘Vp [12]∘Vo (vQ ((t.mask / 2 ^ c) % 2 : Nat)) (by exact qhw (n := 1) (j := 1) rfl de om)∘Vp [13, 14]∘Vd∘Jd6) (Je (fun hd47 => ?_) fun hd47 => ?_))
 ·
  exact (JT∘JP∘Jp 2∘Jj∘JZ∘Jz2) fun HM => by exact qs (y := (⟨cp, cr, gA, gc, gs, lA, lc, cl, some ⟨guA, 0, none⟩, uc, cu, some ⟨gtA, 0, none⟩, tc, ts, sA, sc, rs⟩ : Stm)) 1 HM rfl hlns ((if_neg (nf (decide_eq_true hd7))).trans ((if_neg (nf (decide_eq_true hd13))).trans ((if_neg (by show ¬ fidx ts o.task < 0; rw [hk]; omega)).trans ((if_neg (hd25)).trans ((if_neg (by rw [qah (s := Stm.sta (⟨cp, cr, gA, gc, gs, lA, lc, cl, some ⟨guA, 0, none⟩, uc, cu, some ⟨gtA, 0, none⟩, tc, ts, sA, sc, rs⟩ : Stm)) hk ht]; exact hd34)).trans (if_pos (qml (by rw [qah (s := Stm.sta (⟨cp, cr, gA, gc, gs, lA, lc, cl, some ⟨guA, 0, none⟩, uc, cu, some ⟨gtA, 0, none⟩, tc, ts, sA, sc, rs⟩ : Stm)) hk ht]) hcc om)))))))
 refine (JF∘JS'∘JP∘Jp 2∘Jo (vI k) (by rw [hk])∘Jf 5∘Jc O0∘Jo (vI c) (by rw [hcc])∘JL (h:=by exact fun HM => qqn 1 HM rfl hx ht hccp)) ?_
 rintro HM _ w66 ⟨y, rfl, hys, HM2⟩
 refine ⟨_, rfl, _, (show Mem W w66 (.blk g3 o.cells 52 :: (mdB gm y ++ (T))) from HM2), ?_⟩
 exact (Jt5∘Jr∘Jp 2∘Jj∘JZ∘Jz2) fun HM => by exact qun 1 HM rfl ((qf6 (x := (⟨cp, cr, gA, gc, gs, lA, lc, cl, some ⟨guA, 0, none⟩, uc, cu, some ⟨gtA, 0, none⟩, tc, ts, sA, sc, rs⟩ : Stm)) (decide_eq_true hd7) (decide_eq_true hd13) hk ht hd25 hd34 (qgf hcc om)).trans (by rw [hys, hcc]))
theorem qvq {a b : Int} : (a != b) = decide (a ≠ b) := by rw [Bool.eq_iff_iff, bne_iff_ne, decide_eq_true_eq]
theorem qj3 {W w : World} {F T : List Fact} {x : Stm} {ng nl nu nt ns gm c : Nat} {v : Int} (n : Nat) (HM : Mem W w F) (he : F.drop n = mdA gm x ng nl nu nt ns ++ T) (hx : MdOk x ng nl nu nt ns) (hv : loadS x.sta c = v) : Calls Tryz.prog 43 #[vP gm 0, vI c] w (Is w (vI v)) := hv ▸ qql n HM he hx
theorem qte {x : Stm} {o : Op30} {c ct bb : Nat} {fr mo lc be : Int} {t : Tk} {ma : Bool} (hcc : o.cpu = (c : Int)) (hbz : busyF x.sta o.cpu x.cpus.toNat = (fr, mo)) (hlc : loadS x.sta c = lc) (hct : t.cpu = (ct : Int)) (hbb : be.toNat = bb) (hma : (t.ready && (decide (t.cpu = fr) && (decide ((t.mask / 2 ^ c) % 2 = 1) && decide (x.cu.getD ct 0 ≠ t.id)))) = ma) :
  qbb x.sta o be t = (ma && decide (2 * t.weight ≤ mo - lc) && (decide (be < 0) || decide ((x.ts.getD bb Tk.zero).weight < t.weight))) := by
 unfold qbb mayB bitOn
 rw [show x.sta.cpus = x.cpus from rfl, hbz, hcc, Int.toNat_natCast, hlc, hbb, ← hma, show x.sta.cu = x.cu from rfl, show x.sta.ts = x.ts from rfl, hct, Int.toNat_natCast]
 simp only [Bool.and_assoc]
theorem qik (W w : World) (x : Stm) (gm : Nat) (ng nl nu nt ns : Nat) (hx : MdOk x ng nl nu nt ns) (o : Op30) (ho : o.Ok) (T : List Fact) (HM : Mem W w (mdA gm x ng nl nu nt ns ++ T)) :
    Calls Tryz.prog 39 #[vP gm 0, .agg o.cells] w (OpIs W gm T (zu x.sta o)) := by
 obtain ⟨cp, cr, gA, gc, gs, lA, lc, cl, uA, uc, cu, tA, tc, ts, sA, sc, rs⟩ := x
 replace HM : Mem W w (fM gm cp cr gA ng gc lA nl lc uA nu uc tA nt tc sA ns sc :: fG gA ng gc gs :: fI lA nl lc cl :: fI uA nu uc cu :: fT tA nt tc ts :: fS sA ns sc rs :: (fR rs ++ (T))) := HM
 obtain ⟨hlg, hll, hlu, hlt, hls⟩ := hx.ln
 replace hlg : gs.length = ng := hlg; replace hll : cl.length = nl := hll; replace hlu : cu.length = nu := hlu; replace hlt : ts.length = nt := hlt; replace hls : rs.length = ns := hls
 have hlns := hx.ln
 have hsp : SpsOk gs cp rs := hx.spots
 have hrg : rs.length = gs.length := hx.sh.rs
 have hcr : cr < 18446744073709551616 := hx.ok.credit
 obtain ⟨hcp1, hcp2, _, hgs⟩ := zf hx.sh.cfg
 replace hcp1 : 1 ≤ cp := hcp1; replace hcp2 : cp ≤ 64 := hcp2; replace hgs : gsOk gs = true := hgs
 have hgl1 := (qh hgs).1; have hgl2 := (qh hgs).2.1
 have hcll : (cl.length : Int) = cp := hx.sh.cl; have hcul : (cu.length : Int) = cp := hx.sh.cu
 have hfts : ts.length ≤ 1000000 := hx.few.t
 have hoc := ho.cpu; have hot := ho.task; have hog := ho.group; have how := ho.weight; have hoto := ho.to; have hotk := ho.ticks; have hom := ho.mask; have hok8 := ho.kind; unfold I64 at hoc hot hog how hoto hotk
 have hwt_ := qc4 hx.sh; replace hwt_ : ∀ t ∈ ts, 1 ≤ t.weight ∧ t.weight ≤ 65536 := hwt_
 obtain ⟨guA, rfl⟩ := qe (HM.own (i := 3) rfl) om
 have hld : ∀ c, loadS (⟨cp, cr, gA, gc, gs, lA, lc, cl, some ⟨guA, 0, none⟩, uc, cu, tA, tc, ts, sA, sc, rs⟩ : Stm).sta c ≤ 65536000000 ∧ 0 ≤ loadS (⟨cp, cr, gA, gc, gs, lA, lc, cl, some ⟨guA, 0, none⟩, uc, cu, tA, tc, ts, sA, sc, rs⟩ : Stm).sta c := fun c => by have h1 : 0 ≤ loadN ts c ∧ loadN ts c ≤ 65536 * ts.length := qdo (c := c) hwt_; exact ⟨by show loadN ts c ≤ _; omega, h1.1⟩
 refine (Jin2 HM Tryz.func39 136) ?_
 refine (JP∘JE) fun w3 g3 => (Jp 2∘Jj∘JQ∘JP∘Jp 1∘Jg 1 O0∘JI (h:=by exact fun HM => qhb 1 HM rfl hx o.cpu)) fun w18 hbw => (Jp 1∘Jd3∘Jj) (Ju (fun hb19 => ?_) fun hb19 => ?_)
 ·
  intro a I HM
  have hd19 := of_decide_eq_false ((Bool.not_eq_true' _).mp hb19)
  exact Jb I HM ((JT∘JP∘Jp 2∘Jj∘JZ∘Jz2) fun HM => by exact qs (y := (⟨cp, cr, gA, gc, gs, lA, lc, cl, some ⟨guA, 0, none⟩, uc, cu, tA, tc, ts, sA, sc, rs⟩ : Stm)) 1 HM rfl hlns (if_pos (decide_eq_false hd19)))
 intro a I HM
 have hd19 := of_decide_eq_true ((Bool.not_eq_false' _).mp hb19)
 replace hd19 : 0 ≤ o.cpu ∧ o.cpu < cp := hd19
 obtain ⟨c, hcc⟩ : ∃ n : Nat, o.cpu = (n : Int) := ⟨o.cpu.toNat, by omega⟩
 have hccp : ((c : Nat) : Int) < cp := by omega
 obtain ⟨lc_, hlc_⟩ : ∃ z, loadS (⟨cp, cr, gA, gc, gs, lA, lc, cl, some ⟨guA, 0, none⟩, uc, cu, tA, tc, ts, sA, sc, rs⟩ : Stm).sta c = z := ⟨_, rfl⟩
 have hlcb := hld c
 rw [hlc_] at hlcb
 refine Jb I HM ((JF∘JS'∘JP∘Jp 2∘Jj∘JQ∘JP∘Jp 1∘Jn∘Jf 0∘Jf 0∘Jg 0 O1∘Jp 1∘Jj∘JB) fun a I HM => ?_)
 refine qi (fun mS aS wS => ∃ (i : Nat) (fr : Int) (mo : Int), ((i : Int) ≤ cp) ∧ (busyF (⟨cp, cr, gA, gc, gs, lA, lc, cl, some ⟨guA, 0, none⟩, uc, cu, tA, tc, ts, sA, sc, rs⟩ : Stm).sta o.cpu i = (fr, mo)) ∧ mS = cp.toNat - i ∧ Fr aS 136 [] [(26, vI i), (25, vI cp), (7, vI mo), (6, vI fr), (19, .bool false), (5, vI 0), (4, vI 0), (3, vP g3 0), (0, vP gm 0)] ∧ Mem W wS (.blk g3 o.cells 52 :: fM gm cp cr gA ng gc lA nl lc (some ⟨guA, 0, none⟩) nu uc tA nt tc sA ns sc :: fG gA ng gc gs :: fI lA nl lc cl :: fI (some ⟨guA, 0, none⟩) nu uc cu :: fT tA nt tc ts :: fS sA ns sc rs :: (fR rs ++ (T)))) (m := cp.toNat - 0) ⟨0, (-1), (-1), by omega, rfl, rfl, I.sub kr, HM.pt 7 [0, 1, 2, 3, 4, 5, 6]⟩ ?_
 clear I HM; rintro mS a w_ ⟨i, fr, mo, hi, hbz, rfl, I, HM⟩
 refine Jb I HM ((JP∘Jp 1∘Jj∘JQ) (Ju (fun hb27 => ?_) fun hb27 => ?_))
 ·
  intro a I HM
  have hd27 := of_decide_eq_true hb27
  obtain ⟨lw, hlw⟩ : ∃ z, loadS (⟨cp, cr, gA, gc, gs, lA, lc, cl, some ⟨guA, 0, none⟩, uc, cu, tA, tc, ts, sA, sc, rs⟩ : Stm).sta i = z := ⟨_, rfl⟩
  have hlwb := hld i
  rw [hlw] at hlwb
  refine Jb I HM ((JT∘JS'∘JQ∘JB∘JP∘Jp 2∘Jd1∘Jr∘Jp 2∘JI (h:=by exact fun HM => qj3 1 HM rfl hx hlw)) fun w31 hbw => (Jp 1∘Jd3∘Jr∘Jp 1∘Jf 1∘Jc O0∘Jo (vI c) (by rw [hcc])∘Jp 2) (Jh (fun hd36 => ?_) fun hd36 => ?_))
  ·
   refine (Jp 4∘Jd6∘Jj) (Ji (fun hd40 => ?_) fun hd40 => ?_)
   ·
    refine (JT∘JR∘Jp 4∘Jj∘JR∘JaK 1∘Jp 1∘Jd1∘Jq) fun a I HM => ?_
    exact ⟨_, om, i + 1, (i : Int), lw, by omega, by rw [qcr hbz, if_pos ⟨by omega, by rw [hlw]; omega⟩, hlw], rfl, I.sub kr, HM.pt 7 [0, 1, 2, 3, 4, 5, 6]⟩
   refine (JF∘JS'∘JR∘JaK 1∘Jp 1∘Jd1∘Jq) fun a I HM => ?_
   exact ⟨_, om, i + 1, fr, mo, by omega, by rw [qcr hbz, if_neg (by rw [hlw]; omega)], rfl, I.sub kr, HM.pt 7 [0, 1, 2, 3, 4, 5, 6]⟩
  refine (Jp 4∘Jd6∘Jj∘JF∘JS'∘JR∘JaK 1∘Jp 1∘Jd1∘Jq) fun a I HM => ?_
  exact ⟨_, om, i + 1, fr, mo, by omega, by rw [qcr hbz, if_neg (by rw [hlw]; omega)], rfl, I.sub kr, HM.pt 7 [0, 1, 2, 3, 4, 5, 6]⟩
 intro a I HM
 have hd27 := of_decide_eq_false hb27
 have hcpi : i = cp.toNat := by omega
 revert HM; revert a; repeat (first | clear I | clear HM)
 intro a I HM
 subst hcpi
 have hbb_ := qer (cpu := o.cpu) hld de cp.toNat
 rw [hbz] at hbb_
 replace hbb_ : -1 ≤ fr ∧ fr < (cp.toNat : Int) ∧ -1 ≤ mo ∧ mo ≤ 65536000000 := hbb_
 refine Jb I HM ((JF∘JX∘JG∘JP∘Jp 1∘Jj∘JQ∘JP∘Jp 1∘Jn∘Jf 0∘Jg 5 O1∘Jl∘Jp 1∘Jj∘JB) fun a I HM => ?_)
 refine qi (fun mS aS wS => ∃ (n : Nat) (be : Int), (n ≤ ts.length) ∧ (bestI (bestF (⟨cp, cr, gA, gc, gs, lA, lc, cl, some ⟨guA, 0, none⟩, uc, cu, tA, tc, ts, sA, sc, rs⟩ : Stm).sta o n) = be) ∧ mS = ts.length - n ∧ Fr aS 136 [] [(50, vI n), (49, vI nt), (48, .slice tA nt tc), (10, vI be), (27, .bool false), (26, vI cp.toNat), (25, vI cp), (7, vI mo), (6, vI fr), (19, .bool false), (5, vI 0), (4, vI 0), (3, vP g3 0), (0, vP gm 0)] ∧ Mem W wS (.blk g3 o.cells 52 :: fM gm cp cr gA ng gc lA nl lc (some ⟨guA, 0, none⟩) nu uc tA nt tc sA ns sc :: fG gA ng gc gs :: fI lA nl lc cl :: fI (some ⟨guA, 0, none⟩) nu uc cu :: fT tA nt tc ts :: fS sA ns sc rs :: (fR rs ++ (T)))) (m := ts.length - 0) ⟨0, (-1), Nat.zero_le _, rfl, rfl, I.sub kr, HM.pt 7 [0, 1, 2, 3, 4, 5, 6]⟩ ?_
 clear I HM; rintro mS a w_ ⟨n, be, hn, hbe, rfl, I, HM⟩
 refine Jb I HM ((JP∘Jp 1∘Jj∘JQ) (Ju (fun hb51 => ?_) fun hb51 => ?_))
 ·
  intro a I HM
  have hd51 := of_decide_eq_true hb51
  revert HM; revert a; repeat (first | clear I | clear HM)
  intro a I HM
  obtain ⟨gtA, rfl⟩ := qe (HM.own (i := 5) rfl) (Nat.lt_of_le_of_lt (Nat.zero_le _) (show n < nt from (by omega : n < nt)))
  obtain ⟨t, ht⟩ : ∃ z, ts[n]? = some z := ⟨_, List.getElem?_eq_getElem om⟩
  obtain ⟨htg, hto⟩ := hx.task ht
  have hti := htg.id; have htgr := htg.group; have htc := htg.cpu; have htw := htg.weight; have htv := hto.v; have htr := hto.r; have htm := hto.mask
  replace htc : 0 ≤ t.cpu ∧ t.cpu < cp := htc
  obtain ⟨gt, hgt⟩ : ∃ n : Nat, t.group = (n : Int) := ⟨t.group.toNat, by omega⟩
  obtain ⟨ct, hct⟩ : ∃ n : Nat, t.cpu = (n : Int) := ⟨t.cpu.toNat, by omega⟩
  obtain ⟨wt, hwt⟩ : ∃ n : Nat, t.weight = (n : Int) := ⟨t.weight.toNat, by omega⟩
  have hEo : (⟨t.v, t.r, wt⟩ : En).Ok := En.qda htg.ent hwt htv
  have hbi := qb6 hbe
  obtain ⟨bb, hbb⟩ : ∃ n : Nat, be.toNat = n := ⟨_, rfl⟩
  have hmb := Nat.div_le_self t.mask (2 ^ c)
  have hbw := fun h => hwt_ (ts.getD bb Tk.zero) (qm Tk.zero h)
  refine Jb I HM ((JT∘JS'∘JQ∘JB∘JP∘Jp 1∘Jy (h:=by exact Yl.ix0 gtA n 8 rfl rfl rfl)∘Jy (v := .agg t.cells) (h:=by exact Yl.loadS rfl rfl si_tk rfl (fun _ h => h.qbf qd (i := 5) rfl (ht)))∘JA #[vI 0, vI 0, vI 0, vI 0, vQ 0, .bool false, vQ 0, vW 0]) fun w12 g12 => (Jp 1∘JV si_tk O0' (h1:=by exact qbi t)) fun w14_5 => (Jj) fun a I HM => ?_)
  refine qy (fun aS wS => Fr aS 136 [] [(13, .bool (t.ready && (decide (t.cpu = fr) && (decide ((t.mask / 2 ^ c) % 2 = 1) && decide (cu.getD ct 0 ≠ t.id))))), (11, vI n), (12, vP g12 0), (51, .bool true), (50, vI n), (49, vI nt), (48, vS gtA nt tc), (10, vI be), (27, .bool false), (26, vI cp.toNat), (25, vI cp), (7, vI mo), (6, vI fr), (19, .bool false), (5, vI 0), (4, vI 0), (3, vP g3 0), (0, vP gm 0)] ∧ Mem W wS (.blk g12 t.cells 81 :: .blk g3 o.cells 52 :: fM gm cp cr gA ng gc lA nl lc (some ⟨guA, 0, none⟩) nu uc (some ⟨gtA, 0, none⟩) nt tc sA ns sc :: fG gA ng gc gs :: fI lA nl lc cl :: fI (some ⟨guA, 0, none⟩) nu uc cu :: fT (some ⟨gtA, 0, none⟩) nt tc ts :: fS sA ns sc rs :: (fR rs ++ (T)))) ?_ ?_
  ·
   refine Jb I HM ((Vs .n []) fun wd15 => (Vf 0 5∘Vc 1 O0∘Vp [2]) fun a I HM HS => ?_)
   rcases I.tf 57 rfl with ⟨hb57, I⟩ | ⟨hb57, I⟩
   ·
    refine Vb I HM HS ((Vf 3 3∘Vp [5]∘Vc 4 O0∘Vp [6, 7, 8]) fun a I HM HS => ?_)
    rcases I.tf 63 rfl with ⟨hb63, I⟩ | ⟨hb63, I⟩
    ·
     have hd63 := eq_of_beq hb63
     refine Vb I HM HS ((Vf 9 4∘Vf 11 1∘Vc 10 O0∘Vc 12 O1∘Vo (vI c) (by rw [hcc])∘Vy 13 (v := vQ (t.mask / 2 ^ c : Nat)) (h:=by exact Yl.shrN (m := t.mask) (n := c) rfl rfl rfl (by show _ ≤ 64; omega))∘Vp [14]∘Vo (vQ ((t.mask / 2 ^ c) % 2 : Nat)) (by exact qhw (n := 1) (j := 1) rfl de om)∘Vp [15, 16, 17]) fun a I HM HS => ?_)
     rcases I.tf 72 rfl with ⟨hb72, I⟩ | ⟨hb72, I⟩
     ·
      have hd72 := eq_of_beq hb72
      refine Vb I HM HS ((Vp [18]∘Vf 23 3∘Vf 27 0∘Vn 19∘Vf 20 0∘Vf 21 4∘Vc 22 O2∘Vc 24 O0∘Vo (vI ct) (by rw [hct])∘Vy 25 (h:=by exact Yl.ix0 guA ct 1 rfl rfl rfl)∘Vy 26 (h:=by exact Yl.r1 5 ct 0 om rfl rfl rfl)∘Vc 28 O0∘Vp [29, 30, 31]∘Vd∘Jd6) fun a I HM => ?_)
      have I := I.sp 13 (.bool (t.ready && (decide (t.cpu = fr) && (decide ((t.mask / 2 ^ c) % 2 = 1) && decide (cu.getD ct 0 ≠ t.id))))) rfl (congrArg Value.bool (by rw [hb57, decide_eq_true hd63, decide_eq_true om, Bool.true_and, Bool.true_and, Bool.true_and]; exact qvq))
      exact ⟨I.sub kr, HM.pt 8 [0, 1, 2, 3, 4, 5, 6, 7]⟩
     have hd72 := ne_of_beq_false hb72
     refine ap I (fun _ => HS) [18, 19, 20, 21, 22, 23, 24, 25, 26, 27, 28, 29, 30, 31] (bt 32 []) [(13, .bool false)] fun a I => ?_
     refine qb kr ?_
     have I := I.sp 13 (.bool (t.ready && (decide (t.cpu = fr) && (decide ((t.mask / 2 ^ c) % 2 = 1) && decide (cu.getD ct 0 ≠ t.id))))) rfl (congrArg Value.bool (by rw [hb57, decide_eq_true hd63, decide_eq_false om]; first | done | rfl))
     exact ⟨I.sub kr, HM.pt 8 [0, 1, 2, 3, 4, 5, 6, 7]⟩
    have hd63 := ne_of_beq_false hb63
    refine ap I (fun _ => HS) [9, 10, 11, 12, 13, 14, 15, 16, 17, 18, 19, 20, 21, 22, 23, 24, 25, 26, 27, 28, 29, 30, 31] (bt 32 []) [(13, .bool false)] fun a I => ?_
    refine qb kr ?_
    have I := I.sp 13 (.bool (t.ready && (decide (t.cpu = fr) && (decide ((t.mask / 2 ^ c) % 2 = 1) && decide (cu.getD ct 0 ≠ t.id))))) rfl (congrArg Value.bool (by rw [hb57, decide_eq_false hd63]; first | done | rfl))
    exact ⟨I.sub kr, HM.pt 8 [0, 1, 2, 3, 4, 5, 6, 7]⟩
   refine ap I (fun _ => HS) [3, 4, 5, 6, 7, 8, 9, 10, 11, 12, 13, 14, 15, 16, 17, 18, 19, 20, 21, 22, 23, 24, 25, 26, 27, 28, 29, 30, 31] (bt 32 []) [(13, .bool false)] fun a I => ?_
   refine qb kr ?_
   have I := I.sp 13 (.bool (t.ready && (decide (t.cpu = fr) && (decide ((t.mask / 2 ^ c) % 2 = 1) && decide (cu.getD ct 0 ≠ t.id))))) rfl (congrArg Value.bool (by rw [hb57]; try rfl))
   exact ⟨I.sub kr, HM.pt 8 [0, 1, 2, 3, 4, 5, 6, 7]⟩
  clear I HM; rintro a w15 ⟨I, HM⟩
  obtain ⟨ma, hma⟩ : ∃ b, (t.ready && (decide (t.cpu = fr) && (decide ((t.mask / 2 ^ c) % 2 = 1) && decide (cu.getD ct 0 ≠ t.id)))) = b := ⟨_, rfl⟩
  replace I := I.sp 13 (.bool ma) rfl (by rw [hma])
  have htk := qte (x := (⟨cp, cr, gA, gc, gs, lA, lc, cl, some ⟨guA, 0, none⟩, uc, cu, some ⟨gtA, 0, none⟩, tc, ts, sA, sc, rs⟩ : Stm)) (be := be) hcc hbz hlc_ hct hbb hma
  refine qy (fun aS wS => Fr aS 136 [] [(116, .bool (qbb (⟨cp, cr, gA, gc, gs, lA, lc, cl, some ⟨guA, 0, none⟩, uc, cu, some ⟨gtA, 0, none⟩, tc, ts, sA, sc, rs⟩ : Stm).sta o be t)), (13, .bool ma), (11, vI n), (12, vP g12 0), (51, .bool true), (50, vI n), (49, vI nt), (48, vS gtA nt tc), (10, vI be), (27, .bool false), (26, vI cp.toNat), (25, vI cp), (7, vI mo), (6, vI fr), (19, .bool false), (5, vI 0), (4, vI 0), (3, vP g3 0), (0, vP gm 0)] ∧ Mem W wS (.blk g12 t.cells 81 :: .blk g3 o.cells 52 :: fM gm cp cr gA ng gc lA nl lc (some ⟨guA, 0, none⟩) nu uc (some ⟨gtA, 0, none⟩) nt tc sA ns sc :: fG gA ng gc gs :: fI lA nl lc cl :: fI (some ⟨guA, 0, none⟩) nu uc cu :: fT (some ⟨gtA, 0, none⟩) nt tc ts :: fS sA ns sc rs :: (fR rs ++ (T)))) ?_ ?_
  ·
   refine Jb I HM ((Vs .n []) fun wd16 => (Vp [0, 1]) fun a I HM HS => ?_)
   rcases I.tf 87 rfl with ⟨hb87, I⟩ | ⟨hb87, I⟩
   ·
    refine Vb I HM HS ((Vf 2 2∘Vp [5, 6]∘Vf 7 1∘Vc 3 O0∘Vp [4]∘Vo (vI (2 * t.weight)) (by exact qcj ⟨by omega, by omega⟩)∘Vc 8 O1∘Vo (vI c) (by rw [hcc])∘VI 9 .n (h:=by exact fun HM => qj3 2 HM rfl hx hlc_)) fun w95 hbw => (Vp [10]∘Vo (vI (mo - lc_)) (by exact qcj ⟨by omega, by omega⟩)∘Vp [11, 12, 13]) fun a I HM HS => ?_)
    rcases I.tf 99 rfl with ⟨hb99, I⟩ | ⟨hb99, I⟩
    ·
     have hd99 := of_decide_eq_true hb99
     refine Vb I HM HS ((Vp [14, 15, 16]) fun a I HM HS => ?_)
     rcases I.tf 102 rfl with ⟨hb102, I⟩ | ⟨hb102, I⟩
     ·
      have hd102 := of_decide_eq_true hb102
      refine Vb I HM HS ((Vq [17, 18, 19, 20, 21, 22, 23, 24, 25, 26, 27, 28, 29, 30] [(116, .bool true)]∘Vd∘Jd6) fun a I HM => ?_)
      have I := I.sp 116 (.bool (qbb (⟨cp, cr, gA, gc, gs, lA, lc, cl, some ⟨guA, 0, none⟩, uc, cu, some ⟨gtA, 0, none⟩, tc, ts, sA, sc, rs⟩ : Stm).sta o be t)) rfl (congrArg Value.bool (by rw [htk, hb87, decide_eq_true hd99, decide_eq_true hd102]; rfl))
      exact ⟨I.sub kr, HM.pt 8 [0, 1, 2, 3, 4, 5, 6, 7]⟩
     have hd102 := of_decide_eq_false hb102
     refine ap I (fun _ => HS) [17, 19] (bt 31 [18, 20, 21, 22, 23, 24, 25, 26, 27, 28, 29, 30]) [(105, vP gm 0), (103, vP g12 2)] fun a I => ?_
     refine s_ac I HS 18 0 (v := vI t.weight) fun a I => ?_
     refine s_am I HS 20 fun a I => ?_
     refine ap I (fun _ => HS) [21, 22] (bt 31 [23, 24, 25, 26, 27, 28, 29, 30]) [(108, vP gm 5)] fun a I => ?_
     refine s_ac I HS 23 2 fun a I => ?_
     refine zh I (fun _ => HS) (i := 24) rfl rfl (d := 110) rfl de kr (fun _ _ _ h => h) (v := vI be) (fun _ => Yl.pure kr) fun a I => ?_
     replace I := I.sp 110 (vI bb) rfl (by rw [show be = (bb : Int) by omega])
     refine s_az I HS 25 rfl (v := vP gtA (bb * 8)) (Yl.ix0 gtA bb 8 rfl rfl rfl) fun a I => ?_
     refine ap I (fun _ => HS) [26] (bt 31 [27, 28, 29, 30]) [(112, vP gtA (bb * 8 + 2))] fun a I => ?_
     refine s_az I HS 27 rfl (v := vI ((ts.getD bb Tk.zero).weight)) (Yl.qo rfl rfl kr (fun _ h => h.qq qd (i := 6) rfl (k := bb) (off := 2) (x := (ts.getD bb Tk.zero)) ((getD_at Tk.zero om)) rfl)) fun a I => ?_
     refine ap I (fun _ => HS) [28, 29, 30] (bt 31 []) [(116, .bool (decide ((t.weight : Int) > ((ts.getD bb Tk.zero).weight : Int))))] fun a I => ?_
     refine qb kr ?_
     have I := I.sp 116 (.bool (qbb (⟨cp, cr, gA, gc, gs, lA, lc, cl, some ⟨guA, 0, none⟩, uc, cu, some ⟨gtA, 0, none⟩, tc, ts, sA, sc, rs⟩ : Stm).sta o be t)) rfl (congrArg Value.bool (by rw [htk, hb87, decide_eq_true hd99, decide_eq_false hd102]; rfl))
     exact ⟨I.sub kr, HM.pt 8 [0, 1, 2, 3, 4, 5, 6, 7]⟩
    have hd99 := of_decide_eq_false hb99
    refine ap I (fun _ => HS) [14, 15, 16, 17, 18, 19, 20, 21, 22, 23, 24, 25, 26, 27, 28, 29, 30] (bt 31 []) [(116, .bool false)] fun a I => ?_
    refine qb kr ?_
    have I := I.sp 116 (.bool (qbb (⟨cp, cr, gA, gc, gs, lA, lc, cl, some ⟨guA, 0, none⟩, uc, cu, some ⟨gtA, 0, none⟩, tc, ts, sA, sc, rs⟩ : Stm).sta o be t)) rfl (congrArg Value.bool (by rw [htk, decide_eq_false hd99, Bool.and_false]; rfl))
    exact ⟨I.sub kr, HM.pt 8 [0, 1, 2, 3, 4, 5, 6, 7]⟩
   refine ap I (fun _ => HS) [2, 3, 4, 5, 6, 7, 8, 9, 10, 11, 12, 13, 14, 15, 16, 17, 18, 19, 20, 21, 22, 23, 24, 25, 26, 27, 28, 29, 30] (bt 31 []) [(116, .bool false)] fun a I => ?_
   refine qb kr ?_
   have I := I.sp 116 (.bool (qbb (⟨cp, cr, gA, gc, gs, lA, lc, cl, some ⟨guA, 0, none⟩, uc, cu, some ⟨gtA, 0, none⟩, tc, ts, sA, sc, rs⟩ : Stm).sta o be t)) rfl (congrArg Value.bool (by rw [htk, hb87]; rfl))
   exact ⟨I.sub kr, HM.pt 8 [0, 1, 2, 3, 4, 5, 6, 7]⟩
  clear I HM; rintro a w16 ⟨I, HM⟩
  refine Jb I HM (Ju (fun hb116 => ?_) fun hb116 => ?_)
  ·
   refine (JT∘JR∘Jp 2∘Jd1∘Jj∘JR∘JaK 1∘Jp 1∘Jd1∘Jq) fun a I HM => ?_
   exact ⟨_, om, n + 1, (n : Int), by omega, by rw [qcq hbe, show (Stm.sta (⟨cp, cr, gA, gc, gs, lA, lc, cl, some ⟨guA, 0, none⟩, uc, cu, some ⟨gtA, 0, none⟩, tc, ts, sA, sc, rs⟩ : Stm)).ts.getD n Tk.zero = t from qx Tk.zero ht, if_pos hb116], rfl, I.sub kr, HM.pt 8 [1, 2, 3, 4, 5, 6, 7]⟩
  refine (JF∘JS'∘JR∘JaK 1∘Jp 1∘Jd1∘Jq) fun a I HM => ?_
  exact ⟨_, om, n + 1, be, by omega, by rw [qcq hbe, show (Stm.sta (⟨cp, cr, gA, gc, gs, lA, lc, cl, some ⟨guA, 0, none⟩, uc, cu, some ⟨gtA, 0, none⟩, tc, ts, sA, sc, rs⟩ : Stm)).ts.getD n Tk.zero = t from qx Tk.zero ht, if_neg (nt' hb116)], rfl, I.sub kr, HM.pt 8 [1, 2, 3, 4, 5, 6, 7]⟩
 intro a I HM
 have hd51 := of_decide_eq_false hb51
 have hnl : n = ts.length := by omega
 revert HM; revert a; repeat (first | clear I | clear HM)
 intro a I HM
 subst hnl
 have hbi := qb6 hbe
 refine Jb I HM ((JF∘JX∘JG∘JQ∘JP∘Jp 2∘Jd1∘Jj) (Ju (fun hb120 => ?_) fun hb120 => ?_))
 ·
  intro a I HM
  have hd120 := of_decide_eq_true hb120
  exact Jb I HM ((JT∘JP∘Jp 2∘Jj∘JZ∘Jz2) fun HM => by exact qs (y := (⟨cp, cr, gA, gc, gs, lA, lc, cl, some ⟨guA, 0, none⟩, uc, cu, tA, tc, ts, sA, sc, rs⟩ : Stm)) 1 HM rfl hlns (qe7 (x := (⟨cp, cr, gA, gc, gs, lA, lc, cl, some ⟨guA, 0, none⟩, uc, cu, tA, tc, ts, sA, sc, rs⟩ : Stm)) (decide_eq_true hd19) (by rw [hbe]; omega)))
 intro a I HM
 have hd120 := of_decide_eq_false hb120
 obtain ⟨k, hk⟩ : ∃ n : Nat, be = (n : Int) := ⟨be.toNat, by omega⟩
 revert HM; revert a; repeat (first | clear I | clear HM)
 intro a I HM
 subst hk
 revert HM; revert a; repeat (first | clear I | clear HM)
 intro a I HM
 obtain ⟨gtA, rfl⟩ := qe (HM.own (i := 5) rfl) (Nat.lt_of_le_of_lt (Nat.zero_le _) (show k < nt from (by omega : k < nt)))
 obtain ⟨t2, ht2⟩ : ∃ z, ts[k]? = some z := ⟨_, List.getElem?_eq_getElem om⟩
 refine Jb I HM ((JF∘JS'∘JP∘Jp 1∘Jn∘Jf 0∘Jg 5 O1∘Jp 1∘Jy (h:=by exact Yl.ix0 gtA k 8 rfl rfl rfl)∘Jf 0∘Jy (v := vI t2.id) (h:=by exact Yl.qo rfl rfl kr (fun _ h => (by have := h.qq qd (i := 5) rfl (k := k) (off := 0) (x := t2) (ht2) rfl; simpa using this)))∘Jp 1∘Jd6∘Jr∘Jp 2∘Jf 1∘Jc O0∘Jo (vI c) (by rw [hcc])∘JL (h:=by exact fun HM => qqn 1 HM rfl hx ht2 hccp)) ?_)
 rintro HM _ w134 ⟨y, rfl, hys, HM2⟩
 refine ⟨_, rfl, _, (show Mem W w134 (.blk g3 o.cells 52 :: (mdB gm y ++ (T))) from HM2), ?_⟩
 exact (Jt5∘Jr∘Jp 3∘Jj∘JZ∘Jz2) fun HM => by exact qun 1 HM rfl ((qe8 (x := (⟨cp, cr, gA, gc, gs, lA, lc, cl, some ⟨guA, 0, none⟩, uc, cu, some ⟨gtA, 0, none⟩, tc, ts, sA, sc, rs⟩ : Stm)) (decide_eq_true hd19) hbe ht2).trans (by rw [hys, hcc]))
def qmm (W : World) (n : Nat) (l : List Tk) (gv : Nat) (t : Tk) (fs : List Fact) (r : Ending) (w' : World) : Prop := ∃ (A : Option Addr) (c : Nat), r = .returned (.slice A (n + 1) c) ∧ n + 1 ≤ c ∧ Mem W w' (fT A (n + 1) c l :: .blk gv t.cells 81 :: fs)
theorem qil {W w' : World} {n : Nat} {l : List Tk} {gv : Nat} {t : Tk} {fs : List Fact} {r : Ending} {A : Option Addr} {c : Nat} (hr : r = .returned (.slice A (n + 1) c)) (HM : Mem W w' (fT A (n + 1) c l :: .blk gv t.cells 81 :: fs)) : qmm W n l gv t fs r w' := by
 obtain ⟨A', c', h1, h2⟩ := qdz (HM.own (i := 0) rfl)
 injection h1 with h3 h4 h5
 subst h5
 exact ⟨A, c, hr, h2, HM⟩
theorem qqo {W w : World} {fs : List Fact} (HM : Mem W w fs) {i j gv g off lb cb m c : Nat} {cs : Array Value} {xs : List Value} {tv : TypeId} (hv : fs[i]? = some (.blk gv cs tv)) (hi : fs[j]? = some (.row (.slice (some ⟨g, 0, none⟩) m c) m xs 81 8)) (hij : i ≠ j) (hm : 0 < c) {ln lc : Nat} :
  (callFunc 119 [Value.slice (some ⟨gv, 0, none⟩) ln lc, .slice (some ⟨g, off, none⟩) lb cb].toArray).run Tryz.prog w = .ok (.value (.bool false)) w := by
 rw [run_callFunc_extern Tryz.func119 kr kr kr (e := Extern.SlicesOverlaps.overlaps #[42, 42] #[4]) kr]
 show ((Extern.SlicesOverlaps.overlaps #[42, 42] #[4] #[.slice (some ⟨gv, 0, none⟩) ln lc, .slice (some ⟨g, off, none⟩) lb cb]).run Tryz.prog w).andThen _ = _
 rw [qjb HM ei_tk hv hi hij hm ln lc]
 rfl
theorem add0 {g k : Nat} : (some (⟨g, 0, none⟩ : Addr)).map (·.add k) = some ⟨g, k, none⟩ := by rw [Option.map_some, Addr.add_mid, Nat.zero_add]
theorem qqp (l : List Tk) (i : Nat) : (l.flatMap tkL).take (i * 8) = (l.take i).flatMap tkL := by
 rcases Nat.lt_or_ge l.length i with h | h
 ·rw [List.take_of_length_le (by rw [zb]; omega), List.take_of_length_le om]
 ·have h1 : ((l.take i).flatMap tkL).length = i * 8 := by rw [zb, List.length_take]; omega
  conv => lhs; rw [← List.take_append_drop i l, List.flatMap_append, ← h1]
  exact List.take_left
theorem qwx {W w : World} {fs : List Fact} (h : Mem W w fs) {j g n c i : Nat} {l : List Tk} (hi : fs[j]? = some (.row (.slice (some ⟨g, 0, none⟩) n c) n (l.flatMap tkL) 81 8)) (h1 : i < l.length) (h2 : l.length ≤ c) :
  ∃ ad, (if c = i + 1 then some (⟨g, 0, none⟩ : Addr) else (some (⟨g, 0, none⟩ : Addr)).map (·.add ((i + 1) * 8))) = some ad ∧ ∀ k v, ((l.drop (i + 1)).flatMap tkL)[k]? = some v → w.cell? (ad.add k) = some v := by
 by_cases e : c = i + 1
 ·rw [if_pos e]
  refine ⟨_, rfl, fun k v hv => ?_⟩
  rw [List.drop_of_length_le om] at hv
  cases hv
 ·rw [if_neg e]
  refine ⟨⟨g, (i + 1) * 8, none⟩, by simp [Addr.add], ?_⟩
  exact h.tkCells (a := i + 1) (ys := []) (by rw [List.append_nil]; exact hi) ⟨l.length, List.take_of_length_le (by rw [List.length_drop]; omega)⟩ om
theorem qvr {xs ys zs : List Value} {k : Nat} (h : xs.length = k) {j : Nat} (hj : k = j := by rfl) : (putAt (xs ++ ys) k zs).take j = xs := by
 subst hj; subst h
 rw [qd4, List.append_assoc]
 exact List.take_left
theorem qqq (z t : Tk) (g : Nat) (w : World) (hg : w.heap[g]? = some (.cells t.cells 81 (0, 0))) :
    Calls Tryz.prog 86 #[.agg z.cells, vP g 0] w (Is w (.bool (decide (z.id > t.id)))) := by
 refine (JN2 Tryz.func86 9) ?_
 exact (JP∘JE) fun w2 g2 => (Jp 1∘Jr∘Jg 0 O0∘Jf 0∘Jy (v := vI t.id) (h:=by exact Yl.qo rfl rfl kr (fun _ h => h.qay hg rfl))∘Jp 2∘Jd4∘Jj∘JZ) JY1
theorem qnz (A : Option Addr) (c : Nat) (l : List Tk) (t : Tk) (g : Nat) (w : World) (hr : Rd w w.heap.size 8 A l.length (l.flatMap tkL)) (hn : l.length ≤ 1000000) (hg : w.heap[g]? = some (.cells t.cells 81 (0, 0))) :
    Calls Tryz.prog 85 #[.slice A l.length c, .func (.func 86) #[] #[vP g 0]] w (InsIs w l t.id) := by
 refine (JN2 Tryz.func85 19) ?_
 refine (JP∘Jp 1∘Jj∘JQ∘JP∘Jp 1∘Jl∘Jp 1∘Jj∘JB) fun a I HM => ?_
 refine qi (fun mS aS wS => ∃ (k : Nat), (k ≤ l.length) ∧ (∀ j, j < k → (l.getD j Tk.zero).id ≤ t.id) ∧ mS = l.length - k ∧ Fr aS 19 [] [(8, vI k), (7, vI l.length), (4, vI 0), (0, .slice A l.length c), (1, .func (.func 86) #[] #[vP g 0])] ∧ Mem w wS []) (m := l.length - 0) ⟨0, Nat.zero_le _, fun j h => by omega, rfl, I.sub kr, HM.pk []⟩ ?_
 clear I HM; rintro mS a w_ ⟨k, hk, hu, rfl, I, HM⟩
 refine Jb I HM ((JP∘Jp 1∘Jj∘JQ) (Ju (fun hb9 => ?_) fun hb9 => ?_))
 ·
  intro a I HM
  have hd9 := of_decide_eq_true hb9
  have hk9 : k < l.length := by omega
  refine Jb I HM ((JT∘JS'∘JQ∘JB∘JP∘Jp 2∘Jd1∘Jr∘Jp 3) ?_)
  repeat (first | clear I | clear HM)
  intro a I HM
  obtain ⟨gA, oA, rfl, _⟩ := hr.qt (Nat.lt_of_le_of_lt (Nat.zero_le _) (show k < l.length from by omega)) de
  refine Jb I HM ((Jy (h:=by exact Yl.ix gA oA k 8 rfl rfl rfl)∘Jy (v := .agg ((l.getD k Tk.zero).cells)) (h:=by exact Yl.loadS rfl rfl si_tk rfl (fun _ h => (h.old hr).q4 qd ((getD_at Tk.zero om))))) fun a I HM => ?_)
  refine fo I 5 rfl rfl ?_
  refine qci I (f := 86) (vs := [.agg ((l.getD k Tk.zero).cells)]) (fst := []) (caps := [vP g 0]) rfl rfl rfl kr rfl de (qqq (l.getD k Tk.zero) t g _ (HM.oldBlk hg)) ?_
  rintro _ w16 ⟨rfl, hbw⟩
  refine ⟨_, rfl, ?_⟩
  replace HM := HM.call hbw
  clear I; intro a I
  refine Jb I HM ((Jd5∘Jj) (Ji (fun hd16 => ?_) fun hd16 => ?_))
  ·
   exact (JT∘JP∘Jp 2∘Jd1∘Jj∘JZ∘Jz1) fun HM => qnn hk9 hu om HM.below
  refine (JF∘JS'∘JR∘JaK 1∘Jp 1∘Jd1∘Jq) fun a I HM => ?_
  exact ⟨_, om, k + 1, by omega, qhd hu om, rfl, I.sub kr, HM.pk []⟩
 intro a I HM
 have hd9 := of_decide_eq_false hb9
 exact Jb I HM ((JF∘JX∘JG∘JP∘Jp 1∘Jj∘JZ∘Jz1) fun HM => qno (fun j hj => hu j om) HM.below)
theorem qj4 (W w : World) (A : Option Addr) (n c i : Nat) (l : List Tk) (t : Tk) (gv : Nat) (fs : List Fact) (hn : l.length = n) (hnn : n ≤ 1000000) (hi : i ≤ n) (hcn : n ≤ c) (HM : Mem W w (fT A n c l :: .blk gv t.cells 81 :: fs)) :
    Calls Tryz.prog 87 #[.slice A n c, vI i, .slice (some ⟨gv, 0, none⟩) 1 1] w (qmm W n (insT l i t) gv t fs) := by
 refine (Jin3 HM Tryz.func87 95) ?_
 refine (JP∘Jp 1∘Jr∘Jp 2∘Jy (h:=by exact Yl.sliceFrom ei_tk (j := i) rfl rfl rfl om)∘Jt3∘Jr∘Jp 1∘Jl∘Jp 1∘Jd2∘Jj∘JQ∘JP∘Jv 2 [(16, .bool false)]∘Jj∘JF∘JS'∘JP∘Jp 1∘Jl∘Jp 1∘Jd2∘Jj∘JQ∘JP∘Jp 3∘Jd2∘Jj) (Je (fun hd22 => ?_) fun hd22 => ?_)
 ·
  refine (JT∘JP∘Jp 2∘JD (tkL t) 0 (fun _ _ => O0') ei_tk (hr:=by exact fun HM => HM.rdBlk (i := 1) (n := 1) (size := 8) rfl rfl) (h1:=by exact qes t)) fun w25 A25 c25 hc25 => fun a I HM => ?_
  replace HM := HM.asRow (i := 0) (ys := ((l ++ [t]).flatMap tkL)) rfl (qp5 l t)
  refine Jb I HM ((Jp 1∘Jd3∘Jj∘JZ) fun a I HM => ?_)
  have HM3 := HM.pt 2 [0, 1]
  exact s_rt1 rfl I rfl (qil rfl (HM3.asRow (i := 0) rfl (by rw [qs1 (l := l) (t := t) (i := i) om])))
 refine (JF∘JS'∘JQ∘JP∘Jp 2∘JaK 1∘Jp 1∘Jy (h:=by exact Yl.cap rfl rfl kr)∘Jp 1∘Jd5∘Jj) (Ju (fun hb31 => ?_) fun hb31 => ?_)
 ·
  intro a I HM
  have hd31 := of_decide_eq_true hb31
  revert HM; revert a; repeat (first | clear I | clear HM)
  intro a I HM
  obtain ⟨gA, rfl⟩ := qe (HM.own (i := 0) rfl) (Nat.lt_of_le_of_lt (Nat.zero_le _) (show i < n from (by omega : i < n)))
  refine Jb I HM ((JT∘JP∘Jp 2∘Jy (h:=by exact Yl.qbe ei_tk (j := i) rfl rfl rfl om)∘Jp 2∘JaK 1∘Jp 1∘Js) fun a I HM => ?_)
  refine fo I 8 rfl rfl ?_
  refine qgu I HM (kn := .i64) (xs := (l.take i).flatMap tkL) (m := n + 1 - i) rfl ei_tk kr rfl rfl ⟨by rw [zb, List.length_take]; omega, HM.tkCells (j := 0) (a := 0) (l := l) (ys := []) (by rw [List.append_nil]; rfl) ⟨i, rfl⟩ (Nat.zero_le _)⟩ om om om om rfl de ?_
  clear I; intro a w40 g40 c40 I HM2 hc40
  replace HM := HM2
  have hnsomeg400none : i + (n + 1 - i) = n + 1 := om
  replace HM := HM.reRow (i := 0) (ys := ((l.take i).flatMap tkL ++ zT (n + 1 - i))) rfl hnsomeg400none (rfl)
  replace I := I.sp 40 (vS g40 (n + 1) c40) rfl (by rw [hnsomeg400none])
  refine Jb I HM ((Jp 1∘Jd6∘Jr∘Jp 2∘Jy (v := .slice (if c40 = i then some ⟨g40, 0, none⟩ else (some ⟨g40, 0, none⟩ : Option Addr).map (·.add (i * 8))) ((n + 1) - i) (c40 - i)) (h:=by exact Yl.sliceFrom ei_tk (j := i) rfl rfl rfl om)∘Jo (.slice (some ⟨g40, i * 8, none⟩) (n + 1 - i) (c40 - i)) (by rw [if_neg om, add0])∘Jp 1) fun a I HM => ?_)
  refine fo I 4 rfl rfl ?_
  refine qlt I HM (i := 0) (tkL t) rfl ei_tk rfl rfl rfl (by rw [qd, show Nat.min 1 (n + 1 - i) = 1 from Nat.min_eq_left om]) (fun k v hv => by rw [Addr.add_mid, Nat.zero_add]; exact HM.cell (i := 2) rfl (by rw [← Array.getElem?_toList]; exact hv)) (qes t) (by rw [qd]; simp only [List.length_append, zb, qmd, List.length_take]; omega) rfl de ?_
  clear I HM; intro a w45 I HM
  refine Jb I HM ((Jt5∘Jj) fun a I HM => ?_)
  refine wp_seq ?_
  refine Jb I HM ((Vs (.f .n) []) fun wd11 => (Vp [0, 1, 2, 5, 6]∘VaK 3 1∘Vy 4 (v := .slice (if c40 = (i + 1) then some ⟨g40, 0, none⟩ else (some ⟨g40, 0, none⟩ : Option Addr).map (·.add ((i + 1) * 8))) ((n + 1) - (i + 1)) (c40 - (i + 1))) (h:=by exact Yl.sliceFrom ei_tk (j := (i + 1)) rfl rfl rfl om)∘Vo (.slice (some ⟨g40, (i + 1) * 8, none⟩) (n + 1 - (i + 1)) (c40 - (i + 1))) (by rw [if_neg om, add0])∘Vy 7 (v := .slice (if c = i then some ⟨gA, 0, none⟩ else (some ⟨gA, 0, none⟩ : Option Addr).map (·.add (i * 8))) (n - i) (c - i)) (h:=by exact Yl.sliceFrom ei_tk (j := i) rfl rfl rfl om)∘Vo (.slice (some ⟨gA, i * 8, none⟩) (n - i) (c - i)) (by rw [if_neg om, add0])) fun a I HM HS => ?_)
  refine s_on I 8 rfl ?_
  refine qlt I HM (i := 0) ((l.drop i).flatMap tkL) rfl ei_tk rfl rfl rfl (by rw [zb, List.length_drop, show Nat.min (n - i) (n + 1 - (i + 1)) = n - i from Nat.min_eq_left om]; omega) (HM.tkCells (j := 1) (a := i) (ys := []) (by rw [List.append_nil]; rfl) ⟨l.length, List.take_of_length_le (by rw [List.length_drop]; omega)⟩ om) (fun v hv => qbs _ v hv) (by rw [qd0 (by rw [qd]; simp only [List.length_append, zb, qmd, List.length_take]; omega), zb, List.length_drop]; simp only [List.length_append, zb, qmd, List.length_take]; omega) rfl de ?_
  clear I HM; intro a w54 I HM
  refine keepS (HM.pt 3 [1, 2]) (fun HS => ?_)
  refine Vb I HM HS ((Vd∘Jt6∘JP∘Jp 2∘Jd4∘Jj∘JZ) fun a I HM => ?_)
  have HM3 := HM.pt 3 [0, 2]
  exact s_rt1 rfl I rfl (qil rfl (HM3.asRow (i := 0) rfl (by rw [← hn]; exact qs2 om)))
 intro a I HM
 have hd31 := of_decide_eq_false hb31
 revert HM; revert a; repeat (first | clear I | clear HM)
 intro a I HM
 obtain ⟨gA, rfl⟩ := qe (HM.own (i := 0) rfl) (Nat.lt_of_le_of_lt (Nat.zero_le _) (show i < n from (by omega : i < n)))
 refine Jb I HM ((JF∘JS'∘JP∘Jp 3∘JaK 1∘Jy (h:=by exact Yl.qbe ei_tk (j := n + 1) rfl rfl rfl om)∘Jp 1∘Jd5∘Jq) fun a I HM => ?_)
 obtain ⟨ys, hys, HM2⟩ := HM.growRow (i := 0) (m' := n + 1) rfl om om
 replace HM := HM2; clear HM2
 replace hys : ys.length = 8 := by rw [hys]; omega
 refine Jb I HM ((JG∘JQ∘JP∘Jp 4∘JaK 1∘Jy (v := .slice (if c = (i + 1) then some ⟨gA, 0, none⟩ else (some ⟨gA, 0, none⟩ : Option Addr).map (·.add ((i + 1) * 8))) ((n + 1) - (i + 1)) (c - (i + 1))) (h:=by exact Yl.sliceFrom ei_tk (j := (i + 1)) rfl rfl rfl om)∘Jo (.slice (some ⟨gA, (i + 1) * 8, none⟩) (n + 1 - (i + 1)) (c - (i + 1))) (by rw [if_neg om, add0])) fun a I HM => ?_)
 refine fo I 6 rfl rfl ?_
 refine qsi I HM rfl rfl (qqo HM (i := 1) (j := 0) rfl rfl de om) rfl de ?_
 clear I; intro a I
 refine Jb I HM ((Jp 1∘Jd6∘Jj∘JT) fun a I HM => ?_)
 refine wp_seq ?_
 refine Jb I HM ((Vs (.f .n) []) fun wd15 => (Vp [0, 1, 2, 5, 6]∘VaK 3 1∘Vy 4 (v := .slice (if c = (i + 1) then some ⟨gA, 0, none⟩ else (some ⟨gA, 0, none⟩ : Option Addr).map (·.add ((i + 1) * 8))) ((n + 1) - (i + 1)) (c - (i + 1))) (h:=by exact Yl.sliceFrom ei_tk (j := (i + 1)) rfl rfl rfl om)∘Vo (.slice (some ⟨gA, (i + 1) * 8, none⟩) (n + 1 - (i + 1)) (c - (i + 1))) (by rw [if_neg om, add0])∘Vy 7 (v := .slice (if c = i then some ⟨gA, 0, none⟩ else (some ⟨gA, 0, none⟩ : Option Addr).map (·.add (i * 8))) ((n + 1) - i) (c - i)) (h:=by exact Yl.sliceFrom ei_tk (j := i) rfl rfl rfl om)∘Vo (.slice (some ⟨gA, i * 8, none⟩) (n + 1 - i) (c - i)) (by rw [if_neg om, add0])) fun a I HM HS => ?_)
 refine s_on I 8 rfl ?_
 refine qlt I HM (i := 0) ((l.drop i).flatMap tkL) rfl ei_tk rfl rfl rfl (by rw [zb, List.length_drop, show Nat.min (n + 1 - i) (n + 1 - (i + 1)) = n + 1 - (i + 1) from Nat.min_eq_right om]; omega) (HM.tkCells (j := 0) (a := i) (ys := ys) rfl ⟨l.length, List.take_of_length_le (by rw [List.length_drop]; omega)⟩ om) (fun v hv => qbs _ v hv) (by rw [zb, List.length_drop, List.length_append, zb]; omega) rfl de ?_
 clear I HM; intro a w77 I HM
 refine keepS (HM.pt 2 [1]) (fun HS => ?_)
 refine Vb I HM HS ((Vd∘Jt6∘JP∘Jp 2∘Jy (v := .slice (if c = i then some ⟨gA, 0, none⟩ else (some ⟨gA, 0, none⟩ : Option Addr).map (·.add (i * 8))) ((n + 1) - i) (c - i)) (h:=by exact Yl.sliceFrom ei_tk (j := i) rfl rfl rfl om)∘Jo (.slice (some ⟨gA, i * 8, none⟩) (n + 1 - i) (c - i)) (by rw [if_neg om, add0])∘Jp 1) fun a I HM => ?_)
 refine fo I 4 rfl rfl ?_
 refine qlt I HM (i := 0) (tkL t) rfl ei_tk rfl rfl rfl (by rw [qd, show Nat.min 1 (n + 1 - i) = 1 from Nat.min_eq_left om]) (fun k v hv => by rw [Addr.add_mid, Nat.zero_add]; exact HM.cell (i := 1) rfl (by rw [← Array.getElem?_toList]; exact hv)) (qes t) (by rw [qd, qd0 (by rw [zb, List.length_drop, List.length_append, zb]; omega), List.length_append, zb]; omega) rfl de ?_
 clear I HM; intro a w82 I HM
 refine Jb I HM ((Jt6∘Jr∘Jp 2∘Jd3∘Jj∘JZ) fun a I HM => ?_)
 have HM3 := HM.pt 2 [0, 1]
 exact s_rt1 rfl I rfl (qil rfl (HM3.asRow (i := 0) rfl (qp6 om hys)))
theorem qj5 (W w : World) (g n c i : Nat) (l : List Tk) (fs : List Fact) (hn : l.length = n) (hnn : n ≤ 1000000) (hi : i < n) (hcn : n ≤ c) (HM : Mem W w (fT (some ⟨g, 0, none⟩) n c l :: fs)) :
    Calls Tryz.prog 91 #[.slice (some ⟨g, 0, none⟩) n c, vI i, vI ((i + 1 : Nat) : Int)] w (fun r w' => r = .returned (.slice (some ⟨g, 0, none⟩) (n - 1) c) ∧ Mem W w' (fT (some ⟨g, 0, none⟩) (n - 1) c (l.eraseIdx i) :: fs)) := by
 refine (Jin3 HM Tryz.func91 33) ?_
 refine (JP∘Jp 1∘Jr∘Jp 4∘Jl∘Jy (v := .slice (if n = i then some ⟨g, 0, none⟩ else (some ⟨g, 0, none⟩ : Option Addr).map (·.add (i * 8))) ((i + 1) - i) (n - i)) (h:=by exact Yl.qxq ei_tk (i := i) (j := i + 1) (q := n) rfl rfl rfl rfl rfl om om om)∘Jt6∘Jj∘JQ∘JP∘Jp 3∘Jd2∘Jj) (Ju (fun hb16 => ?_) fun hb16 => ?_)
 ·
  intro a I HM
  have hd16 := eq_of_beq hb16
  exact absurd hd16 om
 intro a I HM
 have hd16 := ne_of_beq_false hb16
 refine Jb I HM ((JF∘JS'∘JP∘Jp 1∘Jl∘Jp 1∘Jd2∘Jj) fun a I HM => ?_)
 refine wp_seq ?_
 refine Jb I HM ((Vs (.f .n) []) fun wd5 => (Vp [0, 1, 3, 4]∘Vy 2 (h:=by exact Yl.qbe ei_tk (j := i) rfl rfl rfl om)∘Vy 5 (h:=by exact Yl.sliceFrom ei_tk (j := (i + 1)) rfl rfl rfl om)) fun a I HM HS => ?_)
 refine s_on I 6 rfl ?_
 obtain ⟨ad, had, hsrc⟩ := qwx HM (j := 0) (i := i) rfl (by omega : i < l.length) (by omega : l.length ≤ c)
 replace I := I.sp 25 (.slice (some ad) (n - (i + 1)) (c - (i + 1))) rfl (by rw [had])
 replace HM := HM.cutR (i := 0) (m' := i) (ys := (l.take i).flatMap tkL) rfl om (qqp l i)
 refine qkt I HM (i := 0) (news := (l.drop (i + 1)).flatMap tkL) rfl ei_tk rfl rfl rfl (by rw [zb, List.length_drop]; omega) hsrc om (fun v hv => qbs _ v hv) rfl de ?_
 clear I HM; intro a w26 I HM
 refine keepS (HM.pt 1 []) (fun HS => ?_)
 refine Vb I HM HS ((Vp [7]∘Vd∘Jd6) fun a I HM => ?_)
 have hnsomeg0none : i + (n - (i + 1)) = n - 1 := om
 replace HM := HM.reRow (i := 0) (ys := (l.eraseIdx i).flatMap tkL) rfl hnsomeg0none (qme om)
 replace I := I.sp 0 (vS g (n - 1) c) rfl (by rw [hnsomeg0none])
 refine Jb I HM ((JP∘Jp 2∘Jl∘Jp 1∘Jy (v := .slice (if c = n - 1 then some ⟨g, 0, none⟩ else (some ⟨g, 0, none⟩ : Option Addr).map (·.add ((n - 1) * 8))) (n - (n - 1)) (c - (n - 1))) (h:=by exact Yl.qxn ei_tk (i := n - 1) (j := n) rfl rfl rfl rfl om om)∘Jo (.slice (some ⟨g, (n - 1) * 8, none⟩) (n - (n - 1)) (c - (n - 1))) (by rw [if_neg om, add0])) fun a I HM => ?_)
 refine fo I 5 rfl rfl ?_
 obtain ⟨ys, hys, HM2⟩ := HM.growRow (i := 0) (m' := n) rfl om om
 replace HM := HM2; clear HM2
 refine qu2 I HM (i := 0) rfl ei_tk rfl rfl om (qwv _) (by rw [List.length_append, hys, zb, List.length_eraseIdx, if_pos om]; omega) rfl fun w6_5 HM => ?_
 replace HM := HM.cutR (i := 0) (m' := n - 1) (ys := (l.eraseIdx i).flatMap tkL) rfl om (qvr (by rw [zb, List.length_eraseIdx, if_pos om]; omega))
 refine Jb I HM ((Jt5∘Jr∘Jp 2∘Jd1∘Jj∘JZ) fun a I HM => ?_)
 exact s_rt1 rfl I rfl ⟨rfl, HM⟩
theorem qqr {W w : World} {g n c i : Nat} {l : List Tk} {F F' : List Fact} (O : Upd (fT (some ⟨g, 0, none⟩) n c l) (fT (some ⟨g, 0, none⟩) (n - 1) c (l.eraseIdx i)) F F') (HM : Mem W w F) (hn : l.length = n) (hnn : n ≤ 1000000) (hi : i < n) :
  Calls Tryz.prog 91 #[.slice (some ⟨g, 0, none⟩) n c, vI i, vI ((i + 1 : Nat) : Int)] w (fun r w' => r = .returned (.slice (some ⟨g, 0, none⟩) (n - 1) c) ∧ Mem W w' F') := by
 obtain ⟨p, q, rfl, rfl⟩ := O.split
 have h2 := HM.perm List.perm_middle
 obtain ⟨A', c', h3, h4⟩ := qdz (h2.own (i := 0) rfl)
 injection h3 with _ _ h5
 subst h5
 exact (qj5 W w g n c i l (p ++ q) hn hnn hi h4 h2).mono fun r w' h => ⟨h.1, h.2.perm List.perm_middle.symm⟩
theorem At.mem {α : Type} {a : α} {l : List α} (h : At l a) : a ∈ l := by
 induction h with
 | z => exact List.mem_cons_self ..
 | s _ ih => exact List.mem_cons_of_mem _ ih
theorem qj6 {W w : World} {A : Option Addr} {n c i gv : Nat} {l : List Tk} {F : List Fact} {F' : Option Addr → Nat → List Fact} (t : Tk) (j : Nat) (O : ∀ A' c', Upd (fT A n c l) (fT A' (n + 1) c' (insT l i t)) F (F' A' c')) (V : At F (.blk gv t.cells 81)) (HM : Mem W w F) (hn : l.length = n) (hnn : n ≤ 1000000) (hi : i ≤ n) (hj : F[j]? = some (fT A n c l) := by exact rfl) (hu : (fun A' c' => F.set j (fT A' (n + 1) c' (insT l i t))) = F' := by kernel_rfl) :
  Calls Tryz.prog 87 #[.slice A n c, vI i, .slice (some ⟨gv, 0, none⟩) 1 1] w (fun r w' => ∃ A' c', r = .returned (.slice A' (n + 1) c') ∧ n + 1 ≤ c' ∧ Mem W w' (F' A' c')) := by
 have hjl := (List.getElem?_eq_some_iff.1 hj).1
 obtain ⟨p, q, hF, hset⟩ : ∃ p q, F = p ++ fT A n c l :: q ∧ ∀ b, F.set j b = p ++ b :: q := ⟨F.take j, F.drop (j + 1), by rw [← (List.getElem?_eq_some_iff.1 hj).2, ← List.drop_eq_getElem_cons hjl, List.take_append_drop], fun b => by rw [List.set_eq_take_append_cons_drop, if_pos hjl]⟩
 have h2 := (hF ▸ HM).perm (List.perm_middle (l₁ := p) (a := fT A n c l) (l₂ := q))
 obtain ⟨A', c', h3, h4⟩ := qdz (h2.own (i := 0) rfl)
 injection h3 with _ _ h5
 subst h5
 have hv := V.mem
 rw [hF] at hv
 have hv2 : Fact.blk gv t.cells 81 ∈ p ++ q := by
  rcases List.mem_append.1 hv with h | h
  ·exact List.mem_append_left _ h
  ·rcases List.mem_cons.1 h with h | h
   ·cases h
   ·exact List.mem_append_right _ h
 obtain ⟨s, u, hs⟩ := List.append_of_mem hv2
 rw [hs] at h2
 have h6 := h2.perm (List.Perm.cons _ (List.perm_middle (l₁ := s) (a := Fact.blk gv t.cells 81) (l₂ := u)))
 refine (qj4 W w A n c i l t gv (s ++ u) hn hnn hi h4 h6).mono fun r w' ⟨A', c', e1, e2, e3⟩ => ⟨A', c', e1, e2, ?_⟩
 have h7 := e3.perm (List.Perm.cons _ (List.perm_middle (l₁ := s) (a := Fact.blk gv t.cells 81) (l₂ := u)).symm)
 rw [← hs] at h7
 have h8 := h7.perm (List.perm_middle (l₁ := p) (l₂ := q)).symm
 rw [← hset] at h8
 have h9 := congrFun (congrFun hu A') c'
 rw [← h9]
 exact h8
theorem qvs {W w : World} {g : Nat} {F F' : List Fact} (t t1 : Tk) (x : En) (h1 : t.put x = t1) (O : Upd (.blk g t.cells 81) (.blk g t1.cells 81) F F') (HM : Mem W w F) (hx : x.Ok) :
  Calls Tryz.prog 84 #[vP g 0, .agg x.cells] w (fun r w' => r = .returned (.tuple #[]) ∧ Mem W w' F') := by
 subst h1
 exact qvk t x O HM hx
theorem qqs {w : World} {A : Option Addr} {c n g : Nat} {l : List Tk} {t : Tk} (hl : l.length = n) (hr : Rd w w.heap.size 8 A n (l.flatMap tkL)) (hn : l.length ≤ 1000000) (hg : w.heap[g]? = some (.cells t.cells 81 (0, 0))) : Calls Tryz.prog 85 #[.slice A n c, .func (.func 86) #[] #[vP g 0]] w (InsIs w l t.id) := by
 subst hl
 exact qnz A c l t g w hr hn hg
theorem qj7 {x : Stm} {ng nl nu nt ns nt' tc' : Nat} {tA' : Option Addr} {ts' : List Tk} (h : Lns x ng nl nu nt ns) (ht : ts'.length = nt') : Lns { x with tA := tA', tc := tc', ts := ts' } ng nl nu nt' ns := ⟨h.g, h.l, h.u, ht, h.s⟩
theorem qdq {o : Op30} {cp : Int} {cn : Nat} (hc : cp = (cn : Int)) (h : 1 ≤ o.weight ∧ o.weight ≤ 65536 ∧ o.mask ≠ 0 ∧ ¬ 2 ^ cn ≤ o.mask) : ¬ (wOk o.weight = false ∨ o.mask = 0 ∨ qe4 o.mask cp = true) := by
 subst hc
 rintro (h1 | h1 | h1)
 ·exact of_decide_eq_false h1 ⟨h.1, h.2.1⟩
 ·exact h.2.2.1 h1
 ·exact h.2.2.2 (of_decide_eq_true h1)
theorem qfj {o : Op30} {cp : Int} {cn : Nat} (hc : cp = (cn : Int)) (h : ¬ (1 ≤ o.weight ∧ o.weight ≤ 65536 ∧ o.mask ≠ 0 ∧ ¬ 2 ^ cn ≤ o.mask)) : wOk o.weight = false ∨ o.mask = 0 ∨ qe4 o.mask cp = true := by
 subst hc
 by_cases h1 : 1 ≤ o.weight ∧ o.weight ≤ 65536
 ·by_cases h2 : o.mask = 0
  ·exact .inr (.inl h2)
  ·exact .inr (.inr (decide_eq_true (Classical.byContradiction fun h3 => h ⟨h1.1, h1.2, h2, h3⟩)))
 ·exact .inl (decide_eq_false h1)
theorem qgg (W w : World) (x : Stm) (gm : Nat) (ng nl nu nt ns : Nat) (hx : MdOk x ng nl nu nt ns) (o : Op30) (ho : o.Ok) (T : List Fact) (HM : Mem W w (mdA gm x ng nl nu nt ns ++ T)) (hcur : ∀ c, c < x.cu.length → curOk x.sta c = true) :
    Calls Tryz.prog 33 #[vP gm 0, .agg o.cells] w (OpIs W gm T (qai x.sta o)) := by
 obtain ⟨cp, cr, gA, gc, gs, lA, lc, cl, uA, uc, cu, tA, tc, ts, sA, sc, rs⟩ := x
 replace HM : Mem W w (fM gm cp cr gA ng gc lA nl lc uA nu uc tA nt tc sA ns sc :: fG gA ng gc gs :: fI lA nl lc cl :: fI uA nu uc cu :: fT tA nt tc ts :: fS sA ns sc rs :: (fR rs ++ (T))) := HM
 obtain ⟨hlg, hll, hlu, hlt, hls⟩ := hx.ln
 replace hlg : gs.length = ng := hlg; replace hll : cl.length = nl := hll; replace hlu : cu.length = nu := hlu; replace hlt : ts.length = nt := hlt; replace hls : rs.length = ns := hls
 have hlns := hx.ln
 have hsp : SpsOk gs cp rs := hx.spots
 have hrg : rs.length = gs.length := hx.sh.rs
 have hcr : cr < 18446744073709551616 := hx.ok.credit
 obtain ⟨hcp1, hcp2, _, hgs⟩ := zf hx.sh.cfg
 replace hcp1 : 1 ≤ cp := hcp1; replace hcp2 : cp ≤ 64 := hcp2; replace hgs : gsOk gs = true := hgs
 have hgl1 := (qh hgs).1; have hgl2 := (qh hgs).2.1
 have hcll : (cl.length : Int) = cp := hx.sh.cl; have hcul : (cu.length : Int) = cp := hx.sh.cu
 have hfts : ts.length ≤ 1000000 := hx.few.t
 have hoc := ho.cpu; have hot := ho.task; have hog := ho.group; have how := ho.weight; have hoto := ho.to; have hotk := ho.ticks; have hom := ho.mask; have hok8 := ho.kind; unfold I64 at hoc hot hog how hoto hotk
 have hcuo := hx.ok.cu
 obtain ⟨guA, rfl⟩ := qe (HM.own (i := 3) rfl) om
 refine (Jin2 HM Tryz.func33 60) ?_
 refine (JP∘JE) fun w3 g3 => (Jp 2∘Jj∘JQ∘JP∘Jp 1∘Jg 1 O0∘JI (h:=by exact fun HM => qhb 1 HM rfl hx o.cpu)) fun w11 hbw => (Jp 1∘Jd3∘Jj) (Ju (fun hb12 => ?_) fun hb12 => ?_)
 ·
  intro a I HM
  have hd12 := of_decide_eq_false ((Bool.not_eq_true' _).mp hb12)
  exact Jb I HM ((JT∘JP∘Jp 2∘Jj∘JZ∘Jz2) fun HM => by exact qs (y := (⟨cp, cr, gA, gc, gs, lA, lc, cl, some ⟨guA, 0, none⟩, uc, cu, tA, tc, ts, sA, sc, rs⟩ : Stm)) 1 HM rfl hlns (if_pos (decide_eq_false hd12)))
 intro a I HM
 have hd12 := of_decide_eq_true ((Bool.not_eq_false' _).mp hb12)
 replace hd12 : 0 ≤ o.cpu ∧ o.cpu < cp := hd12
 obtain ⟨c, hcc⟩ : ∃ n : Nat, o.cpu = (n : Int) := ⟨o.cpu.toNat, by omega⟩
 have hccp : ((c : Nat) : Int) < cp := by omega
 obtain ⟨id, hid⟩ : ∃ z, cu.getD c 0 = z := ⟨_, rfl⟩
 have hidI : I64 id := by rw [← hid]; exact hcuo _ (qm 0 (by show c < cu.length; omega))
 unfold I64 at hidI
 refine Jb I HM ((JF∘JS') fun a I HM => ?_)
 refine wp_seq ?_
 refine Jb I HM ((Vs .n []) fun wd3 => (Vp [0]∘Vf 5 1∘Vn 1∘Vf 2 0∘Vf 3 4∘Vc 4 O1∘Vc 6 O0∘Vo (vI c) (by rw [hcc])∘Vy 7 (h:=by exact Yl.ix0 guA c 1 rfl rfl rfl)∘Vy 8 (v := vI (cu.getD c 0)) (h:=by exact Yl.r1 4 c 0 om rfl rfl rfl)∘Vo (vI id) (by rw [hid])∘Vp [9]∘Vd∘Jd6∘JQ∘JP∘Jp 2∘Jd1∘Jj) (Ju (fun hb23 => ?_) fun hb23 => ?_))
 ·
  intro a I HM
  have hd23 := eq_of_beq hb23
  exact Jb I HM ((JT∘JP∘Jp 2∘Jj∘JZ∘Jz2) fun HM => by exact qs (y := (⟨cp, cr, gA, gc, gs, lA, lc, cl, some ⟨guA, 0, none⟩, uc, cu, tA, tc, ts, sA, sc, rs⟩ : Stm)) 1 HM rfl hlns ((if_neg (nf (decide_eq_true hd12))).trans (if_pos (by show cu.getD o.cpu.toNat 0 = 0; rw [hcc, Int.toNat_natCast, hid]; omega))))
 intro a I HM
 have hd23 := ne_of_beq_false hb23
 have hid0 : id ≠ 0 := by omega
 have hcuk := qef (x := (⟨cp, cr, gA, gc, gs, lA, lc, cl, some ⟨guA, 0, none⟩, uc, cu, tA, tc, ts, sA, sc, rs⟩ : Stm)) (hcur c (by show c < cu.length; omega)) (by show cu.getD c 0 ≠ 0; rw [hid]; exact hid0)
 rw [show (Stm.cu (⟨cp, cr, gA, gc, gs, lA, lc, cl, some ⟨guA, 0, none⟩, uc, cu, tA, tc, ts, sA, sc, rs⟩ : Stm)).getD c 0 = id from hid] at hcuk
 obtain ⟨k, t, hk, ht, hkl, hkid⟩ := hcuk
 replace hk : fidx ts id = (k : Int) := hk; replace ht : ts[k]? = some t := ht; replace hkl : k < ts.length := hkl
 revert HM; revert a; repeat (first | clear I | clear HM)
 intro a I HM
 obtain ⟨gtA, rfl⟩ := qe (HM.own (i := 5) rfl) (Nat.lt_of_le_of_lt (Nat.zero_le _) (show k < nt from (by omega : k < nt)))
 refine Jb I HM ((JF∘JS'∘JP∘Jp 2∘JI (h:=by exact fun HM => qmk 1 HM rfl hx id k hk)) fun w26 hbw => (Jp 1∘Jd3∘Jj) fun a I HM => ?_)
 refine wp_seq ?_
 refine Jb I HM ((Vs (.t (.t (.t (.t (.f .n))))) [17]) fun wd7 => (Vp [0]∘Vf 5 1∘Vp [7, 12]∘Vn 1∘Vf 2 0∘Vf 3 4∘Vc 4 O1∘Vc 6 O0∘Vo (vI c) (by rw [hcc])∘Vn 8∘Vf 9 0∘Vf 10 5∘Vc 11 O1∘Vy 13 (h:=by exact Yl.ix0 guA c 1 rfl rfl rfl)) fun a I HM HS => ?_)
 refine s_on I 14 rfl ?_
 refine qv I HM (i := 4) rfl rfl rfl rfl kr rfl rfl (by rw [List.length_map]; omega) fun w7_14 HM => ?_
 replace HM := HM.asRow (i := 4) (ys := (cu.set c 0).map I64i) rfl (qa6 I64i cu c 0 om)
 refine keepS (HM.pt 7 [0, 1, 2, 3, 5, 6]) (fun HS => ?_)
 refine Vb I HM HS ((Vu 15 (h:=by exact fun _ => Yl.ix0 gtA k 8 rfl rfl rfl)∘Vf 16 5) fun a I HM HS => ?_)
 refine s_on I 17 rfl ?_
 refine qv I HM (i := 5) rfl rfl rfl rfl kr rfl rfl (by rw [q8 tkL 8 qd]; omega) fun w7_17 HM => ?_
 replace HM := HM.asRow (i := 5) (ys := (ts.set k { t with ready := false }).flatMap tkL) rfl (zc tkL 8 qd ts k t { t with ready := false } ht 5 de _ rfl)
 refine noS kr ?_
 refine qb kr ?_
 refine Jb I HM ((JQ∘JP∘Jg 0 O0∘Jp 1∘Jd6∘Jj) (Je (fun hd45 => ?_) fun hd45 => ?_))
 ·
  exact (JT∘JR∘Jp 2∘Jn∘Jf 0∘Jg 5 O1∘Jp 2∘JaK 1∘JO (h:=by exact fun HM => qqr O5' HM (by rw [List.length_set]; exact hlt) om om)) fun w55 => (Jn∘Jf 0∘Jf 5∘JW O1' O5') fun w9_13 => (Jt6∘Jr∘Jp 3∘Jj∘JZ∘Jz2) fun HM => by exact qs (y := (⟨cp, cr, gA, gc, gs, lA, lc, cl, some ⟨guA, 0, none⟩, uc, (cu.set c 0), some ⟨gtA, 0, none⟩, tc, ((ts.set k { t with ready := false }).eraseIdx k), sA, sc, rs⟩ : Stm)) 1 HM rfl ⟨hlns.g, hlns.l, by show (cu.set _ _).length = nu; rw [List.length_set]; exact hlu, by show ((ts.set k _).eraseIdx k).length = nt - 1; rw [List.length_eraseIdx, List.length_set, if_pos om]; omega, hlns.s⟩ (qmf (x := (⟨cp, cr, gA, gc, gs, lA, lc, cl, some ⟨guA, 0, none⟩, uc, cu, some ⟨gtA, 0, none⟩, tc, ts, sA, sc, rs⟩ : Stm)) (decide_eq_true hd12) hcc hid hid0 hk ht om)
 exact (JF∘JS'∘JP∘Jp 3∘Jj∘JZ∘Jz2) fun HM => by exact qs (y := (⟨cp, cr, gA, gc, gs, lA, lc, cl, some ⟨guA, 0, none⟩, uc, (cu.set c 0), some ⟨gtA, 0, none⟩, tc, (ts.set k { t with ready := false }), sA, sc, rs⟩ : Stm)) 1 HM rfl ⟨hlns.g, hlns.l, by show (cu.set _ _).length = nu; rw [List.length_set]; exact hlu, by show (ts.set k _).length = nt; rw [List.length_set]; exact hlt, hlns.s⟩ (qhe (x := (⟨cp, cr, gA, gc, gs, lA, lc, cl, some ⟨guA, 0, none⟩, uc, cu, some ⟨gtA, 0, none⟩, tc, ts, sA, sc, rs⟩ : Stm)) (decide_eq_true hd12) hcc hid hid0 hk ht om)
theorem qla (W w : World) (x : Stm) (gm : Nat) (ng nl nu nt ns : Nat) (hx : MdOk x ng nl nu nt ns) (o : Op30) (ho : o.Ok) (T : List Fact) (HM : Mem W w (mdA gm x ng nl nu nt ns ++ T)) :
    Calls Tryz.prog 31 #[vP gm 0, .agg o.cells] w (OpIs W gm T (qb9 x.sta o)) := by
 obtain ⟨cp, cr, gA, gc, gs, lA, lc, cl, uA, uc, cu, tA, tc, ts, sA, sc, rs⟩ := x
 replace HM : Mem W w (fM gm cp cr gA ng gc lA nl lc uA nu uc tA nt tc sA ns sc :: fG gA ng gc gs :: fI lA nl lc cl :: fI uA nu uc cu :: fT tA nt tc ts :: fS sA ns sc rs :: (fR rs ++ (T))) := HM
 obtain ⟨hlg, hll, hlu, hlt, hls⟩ := hx.ln
 replace hlg : gs.length = ng := hlg; replace hll : cl.length = nl := hll; replace hlu : cu.length = nu := hlu; replace hlt : ts.length = nt := hlt; replace hls : rs.length = ns := hls
 have hlns := hx.ln
 have hsp : SpsOk gs cp rs := hx.spots
 have hrg : rs.length = gs.length := hx.sh.rs
 have hcr : cr < 18446744073709551616 := hx.ok.credit
 obtain ⟨hcp1, hcp2, _, hgs⟩ := zf hx.sh.cfg
 replace hcp1 : 1 ≤ cp := hcp1; replace hcp2 : cp ≤ 64 := hcp2; replace hgs : gsOk gs = true := hgs
 have hgl1 := (qh hgs).1; have hgl2 := (qh hgs).2.1
 have hcll : (cl.length : Int) = cp := hx.sh.cl; have hcul : (cu.length : Int) = cp := hx.sh.cu
 have hfts : ts.length ≤ 1000000 := hx.few.t
 have hoc := ho.cpu; have hot := ho.task; have hog := ho.group; have how := ho.weight; have hoto := ho.to; have hotk := ho.ticks; have hom := ho.mask; have hok8 := ho.kind; unfold I64 at hoc hot hog how hoto hotk
 obtain ⟨cn, hcn⟩ : ∃ n : Nat, cp = (n : Int) := ⟨cp.toNat, by omega⟩
 obtain ⟨gsA, rfl⟩ := qe (HM.own (i := 5) rfl) om
 refine (Jin2 HM Tryz.func31 139) ?_
 refine (JP∘JE) fun w3 g3 => (Jp 2∘Jr∘Jp 1∘Jn∘Jf 0∘Jp 1∘Jd3∘Jj∘JQ∘JB∘JP∘Jp 1∘Jg 1 O0∘JI (h:=by exact fun HM => qhb 1 HM rfl hx o.cpu)) fun w19 hbw => (Jp 2∘Jd4∘Jj) (Ju (fun hb15 => ?_) fun hb15 => ?_)
 ·
  intro a I HM
  have hd15 := of_decide_eq_false ((Bool.not_eq_true' _).mp hb15)
  exact Jb I HM ((JT∘JP∘Jp 2∘Jj∘JZ∘Jz2) fun HM => by exact qs (y := (⟨cp, cr, gA, gc, gs, lA, lc, cl, uA, uc, cu, tA, tc, ts, some ⟨gsA, 0, none⟩, sc, rs⟩ : Stm)) 1 HM rfl hlns (if_pos (decide_eq_false hd15)))
 intro a I HM
 have hd15 := of_decide_eq_true ((Bool.not_eq_false' _).mp hb15)
 replace hd15 : 0 ≤ o.cpu ∧ o.cpu < cp := hd15
 obtain ⟨c, hcc⟩ : ∃ n : Nat, o.cpu = (n : Int) := ⟨o.cpu.toNat, by omega⟩
 have hccp : ((c : Nat) : Int) < cp := by omega
 refine Jb I HM ((JF∘JP∘Jg 2 O0∘JI (h:=by exact fun HM => qfg o.task _)) fun w24 hbw => (Jp 2∘Jd3∘Jj) (Ji' (fun hd21 => ?_) fun hd21 => ?_))
 ·
  exact (JT∘JP∘Jp 2∘Jj∘JZ∘Jz2) fun HM => by exact qs (y := (⟨cp, cr, gA, gc, gs, lA, lc, cl, uA, uc, cu, tA, tc, ts, some ⟨gsA, 0, none⟩, sc, rs⟩ : Stm)) 1 HM rfl hlns ((if_neg (nf (decide_eq_true hd15))).trans (if_pos (decide_eq_false hd21)))
 refine (JF) fun a I HM => ?_
 refine qy (fun aS wS => Fr aS 139 [] [(26, .bool (!(decide (0 ≤ o.group ∧ o.group < rs.length)))), (21, .bool false), (15, .bool false), (6, vP gm 0), (5, vI 0), (4, vI 0), (3, vP g3 0), (0, vP gm 0)] ∧ Mem W wS (.blk g3 o.cells 52 :: fM gm cp cr gA ng gc lA nl lc uA nu uc tA nt tc (some ⟨gsA, 0, none⟩) ns sc :: fG gA ng gc gs :: fI lA nl lc cl :: fI uA nu uc cu :: fT tA nt tc ts :: fS (some ⟨gsA, 0, none⟩) ns sc rs :: (fR rs ++ (T)))) ?_ ?_
 ·
  refine Jb I HM ((Vs .n []) fun wd6 => (Vf 0 3∘Vc 1 O0∘Vp [2, 3]) fun a I HM HS => ?_)
  rcases I.tf 30 rfl with ⟨hb30, I⟩ | ⟨hb30, I⟩
  ·
   have hd30 := of_decide_eq_true hb30
   refine Vb I HM HS ((Vq [4, 5, 6, 7, 8, 9, 10, 11, 12, 13] [(26, .bool true)]∘Vd∘Jd5) fun a I HM => ?_)
   have I := I.sp 26 (.bool (!(decide (0 ≤ o.group ∧ o.group < rs.length)))) rfl (congrArg Value.bool (by rw [decide_eq_false om]; rfl))
   exact ⟨I.sub kr, HM.pt 7 [0, 1, 2, 3, 4, 5, 6]⟩
  have hd30 := of_decide_eq_false hb30
  refine ap I (fun _ => HS) [4, 6] (bf 14 [0, 1, 2, 3, 4, 6]) [(33, vP gm 0), (31, vP g3 3)] fun a I => ?_
  refine s_ac I HS 5 0 (v := vI o.group) fun a I => ?_
  refine s_am I HS 7 fun a I => ?_
  refine ap I (fun _ => HS) [8] (bt 14 [9, 10, 11, 12, 13]) [(35, vP gm 6)] fun a I => ?_
  refine s_ac I HS 9 1 fun a I => ?_
  refine s_al I HS 10 fun a I => ?_
  refine ap I (fun _ => HS) [11, 12, 13] (bt 14 []) [(26, .bool (decide ((o.group : Int) ≥ (ns : Int))))] fun a I => ?_
  refine qb kr ?_
  have I := I.sp 26 (.bool (!(decide (0 ≤ o.group ∧ o.group < rs.length)))) rfl (congrArg Value.bool (by rw [← decide_not]; exact decide_eq_decide.2 om))
  exact ⟨I.sub kr, HM.pt 7 [0, 1, 2, 3, 4, 5, 6]⟩
 clear I HM; rintro a w6 ⟨I, HM⟩
 refine Jb I HM (Ju (fun hb26 => ?_) fun hb26 => ?_)
 ·
  intro a I HM
  have hd26 := of_decide_eq_false ((Bool.not_eq_true' _).mp hb26)
  exact Jb I HM ((JT∘JP∘Jp 2∘Jj∘JZ∘Jz2) fun HM => by exact qs (y := (⟨cp, cr, gA, gc, gs, lA, lc, cl, uA, uc, cu, tA, tc, ts, some ⟨gsA, 0, none⟩, sc, rs⟩ : Stm)) 1 HM rfl hlns ((if_neg (nf (decide_eq_true hd15))).trans ((if_neg (nf (decide_eq_true hd21))).trans (if_pos (by show ¬ (0 ≤ o.group ∧ o.group < ((rs.map Rw.l).length : Nat)); rw [List.length_map]; exact hd26)))))
 intro a I HM
 have hd26 := of_decide_eq_true ((Bool.not_eq_false' _).mp hb26)
 obtain ⟨g, hgg⟩ : ∃ n : Nat, o.group = (n : Int) := ⟨o.group.toNat, by omega⟩
 refine Jb I HM ((JF) fun a I HM => ?_)
 refine qy (fun aS wS => Fr aS 139 [] [(40, .bool (!(decide (1 ≤ o.weight ∧ o.weight ≤ 65536 ∧ o.mask ≠ 0 ∧ ¬ 2 ^ cn ≤ o.mask)))), (26, .bool false), (21, .bool false), (15, .bool false), (6, vP gm 0), (5, vI 0), (4, vI 0), (3, vP g3 0), (0, vP gm 0)] ∧ Mem W wS (.blk g3 o.cells 52 :: fM gm cp cr gA ng gc lA nl lc uA nu uc tA nt tc (some ⟨gsA, 0, none⟩) ns sc :: fG gA ng gc gs :: fI lA nl lc cl :: fI uA nu uc cu :: fT tA nt tc ts :: fS (some ⟨gsA, 0, none⟩) ns sc rs :: (fR rs ++ (T)))) ?_ ?_
 ·
  refine Jb I HM ((Vs .n []) fun wd8 => (Vf 0 4∘Vc 1 O0) fun a I HM HS => ?_)
  refine s_on I 2 rfl ?_
  refine e_cl I [vI o.weight] rfl rfl (qcm o.weight _) ?_
  rintro _ w43 ⟨rfl, hbw⟩
  refine ⟨_, rfl, ?_⟩
  replace HM := HM.call hbw
  clear I; intro a I
  refine keepS (HM.pt 7 [0, 1, 2, 3, 4, 5, 6]) (fun HS => ?_)
  refine Vb I HM HS ((Vp [3, 4]) fun a I HM HS => ?_)
  rcases I.tf 45 rfl with ⟨hb45, I⟩ | ⟨hb45, I⟩
  ·
   have hd45 := of_decide_eq_false ((Bool.not_eq_true' _).mp hb45)
   refine Vb I HM HS ((Vq [5, 6, 7, 8, 9, 10, 11, 12, 13, 14, 15, 16, 17, 18, 19] [(40, .bool true)]∘Vd∘Jd6) fun a I HM => ?_)
   have I := I.sp 40 (.bool (!(decide (1 ≤ o.weight ∧ o.weight ≤ 65536 ∧ o.mask ≠ 0 ∧ ¬ 2 ^ cn ≤ o.mask)))) rfl (congrArg Value.bool (by rw [decide_eq_false (fun h => by omega)]; rfl))
   exact ⟨I.sub kr, HM.pt 7 [0, 1, 2, 3, 4, 5, 6]⟩
  have hd45 := of_decide_eq_true ((Bool.not_eq_false' _).mp hb45)
  refine ap I (fun _ => HS) [5] (bf 20 [0, 1, 2, 3, 4, 5]) [(46, vP g3 7)] fun a I => ?_
  refine s_ac I HS 6 0 (v := vQ o.mask) fun a I => ?_
  refine ap I (fun _ => HS) [7, 8, 9] (bf 20 [0, 1, 2, 3, 4, 5, 6, 7, 8, 9]) [(50, .bool ((o.mask : Int) == (0 : Int)))] fun a I => ?_
  refine Jb I HM (Je (fun hd50 => ?_) fun hd50 => ?_)
  ·
   intro a I HM
   refine ap I (fun _ => HS) [10, 11, 12, 13, 14, 15, 16, 17, 18, 19] (bt 20 []) [(40, .bool true)] fun a I => ?_
   refine qb kr ?_
   have I := I.sp 40 (.bool (!(decide (1 ≤ o.weight ∧ o.weight ≤ 65536 ∧ o.mask ≠ 0 ∧ ¬ 2 ^ cn ≤ o.mask)))) rfl (congrArg Value.bool (by rw [decide_eq_false (fun h => by omega)]; rfl))
   exact ⟨I.sub kr, HM.pt 7 [0, 1, 2, 3, 4, 5, 6]⟩
  intro a I HM
  refine ap I (fun _ => HS) [10, 12] (bt 20 [11, 13, 14, 15, 16, 17, 18, 19]) [(53, vP gm 0), (51, vP g3 7)] fun a I => ?_
  refine s_ac I HS 11 0 (v := vQ o.mask) fun a I => ?_
  refine s_am I HS 13 fun a I => ?_
  refine ap I (fun _ => HS) [14, 15] (bt 20 [16, 17, 18, 19]) [(56, vP gm 0)] fun a I => ?_
  refine s_ac I HS 16 1 fun a I => ?_
  replace I := I.sp 57 (vI cn) rfl (by rw [hcn]; try rfl)
  refine s_on I 17 rfl (e_is I HM [vQ o.mask, vI cn] (.bool (decide (2 ^ cn ≤ o.mask))) rfl rfl (qst o.mask cn hom ⟨by omega, by omega⟩ _) fun w58 hbw HM a I => ?_)
  refine keepS (HM.pt 7 [0, 1, 2, 3, 4, 5, 6]) (fun HS => ?_)
  refine ap I (fun _ => HS) [18, 19] (bt 20 []) [(40, .bool (decide (2 ^ cn ≤ o.mask)))] fun a I => ?_
  refine qb kr ?_
  have I := I.sp 40 (.bool (!(decide (1 ≤ o.weight ∧ o.weight ≤ 65536 ∧ o.mask ≠ 0 ∧ ¬ 2 ^ cn ≤ o.mask)))) rfl (congrArg Value.bool (by rw [← decide_not]; exact decide_eq_decide.2 ⟨fun h1 h2 => h2.2.2.2 h1, fun h1 => Classical.byContradiction fun h2 => h1 ⟨by omega, by omega, by omega, h2⟩⟩))
  exact ⟨I.sub kr, HM.pt 7 [0, 1, 2, 3, 4, 5, 6]⟩
 clear I HM; rintro a w8 ⟨I, HM⟩
 refine Jb I HM (Ju (fun hb40 => ?_) fun hb40 => ?_)
 ·
  intro a I HM
  have hd40 := of_decide_eq_false ((Bool.not_eq_true' _).mp hb40)
  exact Jb I HM ((JT∘JP∘Jp 2∘Jj∘JZ∘Jz2) fun HM => by exact qs (y := (⟨cp, cr, gA, gc, gs, lA, lc, cl, uA, uc, cu, tA, tc, ts, some ⟨gsA, 0, none⟩, sc, rs⟩ : Stm)) 1 HM rfl hlns ((if_neg (nf (decide_eq_true hd15))).trans ((if_neg (nf (decide_eq_true hd21))).trans ((if_neg (by show ¬ ¬ (0 ≤ o.group ∧ o.group < ((rs.map Rw.l).length : Nat)); rw [List.length_map]; exact not_not_intro hd26)).trans (if_pos (qfj hcn hd40))))))
 intro a I HM
 have hd40 := of_decide_eq_true ((Bool.not_eq_false' _).mp hb40)
 obtain ⟨z, hoz⟩ : ∃ n : Nat, o.weight = (n : Int) := ⟨o.weight.toNat, by omega⟩
 have hz : 1 ≤ z ∧ z ≤ 65536 := by omega
 have hmb := Nat.div_le_self o.mask (2 ^ c)
 refine Jb I HM ((JF∘JP∘Jp 1∘Jg 2 O0∘JI (h:=by exact fun HM => qea 1 HM rfl hx o.task)) fun w64 hbw => (Jp 2∘Jd4∘Jj) (Ju (fun hb60 => ?_) fun hb60 => ?_))
 ·
  intro a I HM
  have hd60 := of_decide_eq_true hb60
  replace hd60 : fidx ts o.task ≥ 0 := hd60
  exact Jb I HM ((JT∘JP∘Jp 2∘Jj∘JZ∘Jz2) fun HM => by exact qs (y := (⟨cp, cr, gA, gc, gs, lA, lc, cl, uA, uc, cu, tA, tc, ts, some ⟨gsA, 0, none⟩, sc, rs⟩ : Stm)) 1 HM rfl hlns ((if_neg (nf (decide_eq_true hd15))).trans ((if_neg (nf (decide_eq_true hd21))).trans ((if_neg (by show ¬ ¬ (0 ≤ o.group ∧ o.group < ((rs.map Rw.l).length : Nat)); rw [List.length_map]; exact not_not_intro hd26)).trans ((if_neg (qdq hcn hd40)).trans (if_pos (by show 0 ≤ fidx ts o.task; omega)))))))
 intro a I HM
 have hd60 := of_decide_eq_false hb60
 replace hd60 : ¬ (fidx ts o.task ≥ 0) := hd60
 refine Jb I HM ((JF∘JP∘Jg 7 O0∘Jf 1∘Jc O0∘Jo (vI c) (by rw [hcc])∘Jy (v := vQ (o.mask / 2 ^ c : Nat)) (h:=by exact Yl.shrN (m := o.mask) (n := c) rfl rfl rfl (by show _ ≤ 64; omega))∘Jp 1∘Jo (vQ ((o.mask / 2 ^ c) % 2 : Nat)) (by exact qhw (n := 1) (j := 1) rfl de om)∘Jp 2∘Jd6∘Jj) (Ju (fun hb66 => ?_) fun hb66 => ?_))
 ·
  intro a I HM
  have hd66 := eq_of_beq hb66
  exact Jb I HM ((JT∘JP∘Jp 2∘Jj∘JZ∘Jz2) fun HM => by exact qs (y := (⟨cp, cr, gA, gc, gs, lA, lc, cl, uA, uc, cu, tA, tc, ts, some ⟨gsA, 0, none⟩, sc, rs⟩ : Stm)) 1 HM rfl hlns ((if_neg (nf (decide_eq_true hd15))).trans ((if_neg (nf (decide_eq_true hd21))).trans ((if_neg (by show ¬ ¬ (0 ≤ o.group ∧ o.group < ((rs.map Rw.l).length : Nat)); rw [List.length_map]; exact not_not_intro hd26)).trans ((if_neg (qdq hcn hd40)).trans ((if_neg (by show ¬ 0 ≤ fidx ts o.task; omega)).trans (if_pos (qml rfl hcc om))))))))
 intro a I HM
 have hd66 := ne_of_beq_false hb66
 obtain ⟨em, hem⟩ : ∃ l, q5 (⟨cp, cr, gA, gc, gs, lA, lc, cl, uA, uc, cu, tA, tc, ts, some ⟨gsA, 0, none⟩, sc, rs⟩ : Stm).sta g c = l := ⟨_, rfl⟩
 have hemm := fun h hh => qie (x := (⟨cp, cr, gA, gc, gs, lA, lc, cl, uA, uc, cu, tA, tc, ts, some ⟨gsA, 0, none⟩, sc, rs⟩ : Stm)) hx (by omega : g < ns) hem h hh
 have hemn := qge (x := (⟨cp, cr, gA, gc, gs, lA, lc, cl, uA, uc, cu, tA, tc, ts, some ⟨gsA, 0, none⟩, sc, rs⟩ : Stm)) hx (by omega : g < ns) hem
 obtain ⟨⟨yA, yc, yl⟩, hy⟩ : ∃ y, rs.getD g Rw.zero = y := ⟨_, rfl⟩
 have hys := hsp g om; rw [hy] at hys
 have hyl : (yl.length : Int) = cp := hys.1
 revert HM; revert a; repeat (first | clear I | clear HM)
 intro a I HM
 obtain ⟨gy, rfl⟩ := HM.rwSome 7 rfl om hy om
 obtain ⟨yz, hyz⟩ : ∃ z, yl[c]? = some z := ⟨_, List.getElem?_eq_getElem om⟩
 have hyo := hys.2 yz (List.mem_of_getElem? hyz)
 have hyv := hyo.1.v; have hyr := hyo.1.r; have hyf := hyo.1.floor
 obtain ⟨t1, ht1⟩ : ∃ t, (⟨o.task, o.group, 0, o.cpu, o.mask, true, 0, 0⟩ : Tk).put (⟨yz.floor, 0, z⟩ : En) = t := ⟨_, rfl⟩
 have ht1i : t1.id = o.task := by rw [← ht1]; rfl
 refine Jb I HM ((JF∘JS'∘JP∘Jp 1∘Jf 3∘Jc O0∘Jo (vI g) (by rw [hgg])∘Jf 1∘Jc O0∘Jo (vI c) (by rw [hcc])∘JK (h:=by exact fun HM => qid 1 HM rfl hx (by show ((c : Nat) : Int) < cp; omega) om hem)) fun A79 c79 w79 hc79 => (Jp 1∘Jd6∘Jr∘Jg 2 O1∘Jg 3 O1∘Jg 1 O1∘Jg 7 O1∘Jy (v := .agg #[vI o.task, vI o.group, vI 0, vI o.cpu, vQ o.mask, .bool true, vQ 0, vW 0]) (h:=by exact Yl.build (vs := [(0, vI o.task), (1, vI o.group), (3, vI o.cpu), (4, vQ o.mask), (5, .bool true)]) rfl kr kr)∘JA #[vI 0, vI 0, vI 0, vI 0, vQ 0, .bool false, vQ 0, vW 0]) fun w8 g8 => (JV si_tk O0') fun w15_10 => (Jd5∘Jj) fun a I HM => ?_)
 refine qy (fun aS wS => ∃ (g9 : Nat), Fr aS 139 [] [(9, vP g9 0), (8, vP g8 0), (7, .slice A79 em.length c79), (66, .bool false), (60, .bool false), (40, .bool false), (26, .bool false), (21, .bool false), (15, .bool false), (6, vP gm 0), (5, vI 0), (4, vI 0), (3, vP g3 0), (0, vP gm 0)] ∧ Mem W wS (.blk g9 ((⟨yz.floor, 0, z⟩ : En).cells) 117 :: .blk g8 #[vI o.task, vI o.group, vI 0, vI o.cpu, vQ o.mask, .bool true, vQ 0, vW 0] 81 :: .row (.slice A79 em.length c79) em.length (em.map I64v) 3 1 :: .blk g3 o.cells 52 :: fM gm cp cr gA ng gc lA nl lc uA nu uc tA nt tc (some ⟨gsA, 0, none⟩) ns sc :: fG gA ng gc gs :: fI lA nl lc cl :: fI uA nu uc cu :: fT tA nt tc ts :: fS (some ⟨gsA, 0, none⟩) ns sc rs :: (fR rs ++ (T)))) ?_ ?_
 ·
  refine Jb I HM ((Vs .n [20]) fun wd16 => (Vp [0]∘Vf 4 3∘Vf 8 1∘Vf 13 4∘Vn 1∘Vf 2 6∘Vc 3 O3∘Vc 5 O2∘Vo (vI g) (by rw [hgg])∘Vy 6 (h:=by exact Yl.ix0 gsA g 1 rfl rfl rfl)∘Vy 7 (v := .slice ((rs.getD g Rw.zero).A) ((rs.getD g Rw.zero).l.length) ((rs.getD g Rw.zero).c)) (h:=by exact Yl.r1 8 g Rw.zero om rfl rfl rfl)∘Vo (vS gy yl.length yc) (by rw [hy])∘Vc 9 O2∘Vo (vI c) (by rw [hcc])∘Vy 10 (h:=by exact Yl.ix0 gy c 3 rfl rfl rfl)∘Vf 11 2∘Vy 12 (v := vQ yz.floor) (h:=by exact Yl.qo rfl rfl kr (fun _ h => h.qat 9 (j := 2) rfl om hy (hyz) rfl))∘Vc 14 O2∘Vo (vI z) (by rw [hoz])) fun a I HM HS => ?_)
  refine qu [15, 19] kr rfl ?_
  refine all_cons ?_ ?_
  ·refine qk I (i := 15) rfl rfl ?_
   refine e_is I HM [vQ yz.floor, vI z] (.tuple #[.agg ((⟨yz.floor, 0, z⟩ : En).cells), vI 0]) rfl rfl (ql8 yz.floor z hyf hz _) fun w105 hbw HM a I => ?_
   refine keepS (HM.pt 9 [0, 1, 2, 3, 4, 5, 6, 7, 8]) (fun HS => ?_)
   refine Vb I HM HS ((Vp [16]∘Vx 17∘Vx 18∘VA 19 .n #[vQ 0, vW 0, vW 0]) fun w9 g9 => fun a I HM HS => ?_)
   refine s_on I 20 rfl (e_sa I HM 0 rfl rfl rfl rfl rfl qp rfl rfl (qw (⟨yz.floor, 0, z⟩ : En)) fun w16_20 HM => ?_)
   refine noS kr ?_
   refine ap I (pastS kr) [21] (bt 22 []) [] fun a I => ?_
   refine qb kr ?_
   exact ⟨g9, I.sub kr, HM.pt 10 [0, 1, 2, 3, 4, 5, 6, 7, 8, 9]⟩
  refine all_cons ?_ all_nil
  refine qk I (i := 19) rfl rfl ?_
  refine s_ea I HM #[vQ 0, vW 0, vW 0] ?_
  clear I HM; intro a w9 g9 I HM
  refine keepS (HM.pt 10 [1, 2, 3, 4, 5, 6, 7, 8, 9]) (fun HS => ?_)
  refine Vb I HM HS ((VI 15 (.f .n) (h:=by exact fun HM => ql8 yz.floor z hyf hz _)) fun w105 hbw => (Vp [16]∘Vx 17∘Vx 18) fun a I HM HS => ?_)
  refine s_on I 20 rfl (e_sa I HM 0 rfl rfl rfl rfl rfl qp rfl rfl (qw (⟨yz.floor, 0, z⟩ : En)) fun w16_20 HM => ?_)
  refine noS kr ?_
  refine ap I (pastS kr) [21] (bt 22 []) [] fun a I => ?_
  refine qb kr ?_
  exact ⟨g9, I.sub kr, HM.pt 10 [0, 1, 2, 3, 4, 5, 6, 7, 8, 9]⟩
 clear I HM; rintro a w16 ⟨g9, I, HM⟩
 refine Jb I HM ((JP∘Jy (v := .agg ((⟨yz.floor, 0, z⟩ : En).cells)) (h:=by exact Yl.loadS rfl rfl qp rfl (fun _ h => qa (h.blk (i := 0) rfl)))∘JO (h:=by exact fun HM => qvs (⟨o.task, o.group, 0, o.cpu, o.mask, true, 0, 0⟩ : Tk) t1 (⟨yz.floor, 0, z⟩ : En) ht1 O1' HM (qpw hyf hz))) fun w109 => (Jt2∘Jr∘Jp 1∘Jn∘Jg 5 O4∘Jy (h:=by exact Yl.makeFunc (fst := []) (caps := [vP g8 0]) rfl rfl rfl)∘JL (h:=by exact fun HM => qqs hlt (HM.rd (i := 8) rfl) hfts (HM.blk (i := 1) rfl))) ?_)
 rintro HM _ w115 ⟨⟨ii, rfl, hins, hi1, hi2⟩, hbw⟩
 refine ⟨_, rfl, _, HM.call hbw, ?_⟩
 refine (Jp 1∘Jd5∘Jj∘JQ∘JP∘Jp 2∘Jd1∘Jj) (Ju (fun hb117 => ?_) fun hb117 => ?_)
 ·
  intro a I HM
  have hd117 := of_decide_eq_true hb117
  obtain ⟨ix, hix⟩ : ∃ n, qcc ts t1.id = n := ⟨_, rfl⟩
  have hixl := qjv ts t1.id
  rw [hix] at hins hixl
  rw [if_pos om] at hins
  refine Jb I HM ((JT∘JR∘Jp 1∘Jn∘Jg 5 O4∘Jl∘Jo (vI ix) (by rw [show nt = ix by omega])∘Jp 1∘Jd4∘Jj) fun a I HM => ?_)
  refine wp_seq ?_
  refine Jb I HM ((Vs (.t (.t (.t (.t (.t (.t (.t (.t (.f .n))))))))) [11]) fun wd21 => (Vp [0, 1, 5]∘Vn 2∘Vf 3 5∘Vc 4 O4∘Vy 6 (v := .agg t1.cells) (h:=by exact Yl.loadS rfl rfl si_tk rfl (fun _ h => qa (h.blk (i := 1) rfl)))) fun a I HM HS => ?_)
  refine s_on I 7 rfl (s_el I HM ei_tk [(0, .agg t1.cells)] t1.cells ?_)
  clear I HM; intro a w130 g130 I HM
  refine keepS (HM.pt 11 [1, 2, 3, 4, 5, 6, 7, 8, 10]) (fun HS => ?_)
  refine s_on I 8 rfl ?_
  refine e_cl I [.slice tA nt tc, vI ix, vS g130 1 1] rfl rfl (qj6 (i := ix) (l := ts) t1 9 (fun _ _ => O9') O0 HM hlt om om) ?_
  rintro _ w131 ⟨A131, c131, rfl, hc131, HM2⟩
  refine ⟨_, rfl, ?_⟩
  replace HM := HM2
  clear I; intro a I
  refine keepS (HM.pt 11 [1, 2, 3, 4, 5, 6, 7, 8, 10]) (fun HS => ?_)
  refine Vb I HM HS ((Vn 9∘Vf 10 5) fun a I HM HS => ?_)
  refine s_on I 11 rfl (s_es I HM 5 fun w21_11 HM => ?_)
  refine noS kr ?_
  refine qb kr ?_
  refine Jb I HM ((JP∘Jp 2∘Jf 1∘Jc O4∘Jo (vI c) (by rw [hcc])∘JL (h:=by exact fun HM => qif 5 HM rfl (j := 3) rfl de (qj7 (tA' := A131) (tc' := c131) (ts' := insT ts ix t1) (nt' := nt + 1) hlns (by rw [qed om]; omega)) (hemm) (hemn) hgs hrg hsp hcr hcp2 (by show ((c : Nat) : Int) < cp; omega))) ?_)
  rintro HM _ w138 ⟨rs2, rfl, hl2, hsp2, hst2, HM2⟩
  refine ⟨_, rfl, _, (show Mem W w138 (.blk g130 t1.cells 81 :: .blk g9 ((⟨yz.floor, 0, z⟩ : En).cells) 117 :: .blk g8 t1.cells 81 :: .row (.slice A79 em.length c79) em.length (em.map I64v) 3 1 :: .blk g3 o.cells 52 :: fM gm cp cr gA ng gc lA nl lc uA nu uc A131 (nt + 1) c131 (some ⟨gsA, 0, none⟩) ns sc :: fG gA ng gc gs :: fI lA nl lc cl :: fI uA nu uc cu :: fT A131 (nt + 1) c131 (insT ts ix t1) :: fS (some ⟨gsA, 0, none⟩) ns sc rs2 :: (fR rs2 ++ (T))) from HM2), ?_⟩
  exact (Jt6∘Jr∘Jp 2∘Jj∘JZ∘Jz2) fun HM => by exact qs (y := (⟨cp, cr, gA, gc, gs, lA, lc, cl, uA, uc, cu, A131, c131, (insT ts ix t1), some ⟨gsA, 0, none⟩, sc, rs2⟩ : Stm)) 5 HM rfl (qma (qj7 (tA' := A131) (tc' := c131) (ts' := insT ts ix t1) (nt' := nt + 1) hlns (by rw [qed om]; omega)) hl2) ((qf8 (x := (⟨cp, cr, gA, gc, gs, lA, lc, cl, uA, uc, cu, tA, tc, ts, some ⟨gsA, 0, none⟩, sc, rs⟩ : Stm)) (t1 := t1) (decide_eq_true hd15) (decide_eq_true hd21) hd26 (qdq hcn hd40) (by show fidx ts o.task < 0; omega) (qgf hcc om) hgg hcc (congrArg Sp.floor (qag (x := (⟨cp, cr, gA, gc, gs, lA, lc, cl, uA, uc, cu, tA, tc, ts, some ⟨gsA, 0, none⟩, sc, rs⟩ : Stm)) (by show g < rs.length; omega) hy hyz)) (by rw [← ht1, hoz]; rfl) hem).trans (by rw [show qcc ts o.task = ix by rw [← ht1i]; exact hix]; exact congrArg (fun s => (s, (0 : Int), 0)) hst2.symm))
 intro a I HM
 have hd117 := of_decide_eq_false hb117
 obtain ⟨ix, hix⟩ : ∃ n, qcc ts t1.id = n := ⟨_, rfl⟩
 have hixl := qjv ts t1.id
 rw [hix] at hins hixl
 rw [if_neg om] at hins
 replace I := I.sp 11 (vI ix) rfl (by rw [show ii = (ix : Int) by omega])
 refine Jb I HM ((JF∘JS') fun a I HM => ?_)
 refine wp_seq ?_
 refine Jb I HM ((Vs (.t (.t (.t (.t (.t (.t (.t (.t (.f .n))))))))) [11]) fun wd21 => (Vp [0, 1, 5]∘Vn 2∘Vf 3 5∘Vc 4 O4∘Vy 6 (v := .agg t1.cells) (h:=by exact Yl.loadS rfl rfl si_tk rfl (fun _ h => qa (h.blk (i := 1) rfl)))) fun a I HM HS => ?_)
 refine s_on I 7 rfl (s_el I HM ei_tk [(0, .agg t1.cells)] t1.cells ?_)
 clear I HM; intro a w130 g130 I HM
 refine keepS (HM.pt 11 [1, 2, 3, 4, 5, 6, 7, 8, 10]) (fun HS => ?_)
 refine s_on I 8 rfl ?_
 refine e_cl I [.slice tA nt tc, vI ix, vS g130 1 1] rfl rfl (qj6 (i := ix) (l := ts) t1 9 (fun _ _ => O9') O0 HM hlt om om) ?_
 rintro _ w131 ⟨A131, c131, rfl, hc131, HM2⟩
 refine ⟨_, rfl, ?_⟩
 replace HM := HM2
 clear I; intro a I
 refine keepS (HM.pt 11 [1, 2, 3, 4, 5, 6, 7, 8, 10]) (fun HS => ?_)
 refine Vb I HM HS ((Vn 9∘Vf 10 5) fun a I HM HS => ?_)
 refine s_on I 11 rfl (s_es I HM 5 fun w21_11 HM => ?_)
 refine noS kr ?_
 refine qb kr ?_
 refine Jb I HM ((JP∘Jp 2∘Jf 1∘Jc O4∘Jo (vI c) (by rw [hcc])∘JL (h:=by exact fun HM => qif 5 HM rfl (j := 3) rfl de (qj7 (tA' := A131) (tc' := c131) (ts' := insT ts ix t1) (nt' := nt + 1) hlns (by rw [qed om]; omega)) (hemm) (hemn) hgs hrg hsp hcr hcp2 (by show ((c : Nat) : Int) < cp; omega))) ?_)
 rintro HM _ w138 ⟨rs2, rfl, hl2, hsp2, hst2, HM2⟩
 refine ⟨_, rfl, _, (show Mem W w138 (.blk g130 t1.cells 81 :: .blk g9 ((⟨yz.floor, 0, z⟩ : En).cells) 117 :: .blk g8 t1.cells 81 :: .row (.slice A79 em.length c79) em.length (em.map I64v) 3 1 :: .blk g3 o.cells 52 :: fM gm cp cr gA ng gc lA nl lc uA nu uc A131 (nt + 1) c131 (some ⟨gsA, 0, none⟩) ns sc :: fG gA ng gc gs :: fI lA nl lc cl :: fI uA nu uc cu :: fT A131 (nt + 1) c131 (insT ts ix t1) :: fS (some ⟨gsA, 0, none⟩) ns sc rs2 :: (fR rs2 ++ (T))) from HM2), ?_⟩
 exact (Jt6∘Jr∘Jp 2∘Jj∘JZ∘Jz2) fun HM => by exact qs (y := (⟨cp, cr, gA, gc, gs, lA, lc, cl, uA, uc, cu, A131, c131, (insT ts ix t1), some ⟨gsA, 0, none⟩, sc, rs2⟩ : Stm)) 5 HM rfl (qma (qj7 (tA' := A131) (tc' := c131) (ts' := insT ts ix t1) (nt' := nt + 1) hlns (by rw [qed om]; omega)) hl2) ((qf8 (x := (⟨cp, cr, gA, gc, gs, lA, lc, cl, uA, uc, cu, tA, tc, ts, some ⟨gsA, 0, none⟩, sc, rs⟩ : Stm)) (t1 := t1) (decide_eq_true hd15) (decide_eq_true hd21) hd26 (qdq hcn hd40) (by show fidx ts o.task < 0; omega) (qgf hcc om) hgg hcc (congrArg Sp.floor (qag (x := (⟨cp, cr, gA, gc, gs, lA, lc, cl, uA, uc, cu, tA, tc, ts, some ⟨gsA, 0, none⟩, sc, rs⟩ : Stm)) (by show g < rs.length; omega) hy hyz)) (by rw [← ht1, hoz]; rfl) hem).trans (by rw [show qcc ts o.task = ix by rw [← ht1i]; exact hix]; exact congrArg (fun s => (s, (0 : Int), 0)) hst2.symm))
theorem ei_fn : EI Tryz.prog 84 59 .nilFunc 1 8 := ⟨by kernel_rfl, by kernel_rfl, rfl, by omega⟩
def stepF (k : Nat) : FuncId := [31, 32, 33, 33, 34, 35, 36, 37, 38, 39].getD k 0
theorem fewer {k : Nat} (h : k < 10) : k = 0 ∨ k = 1 ∨ k = 2 ∨ k = 3 ∨ k = 4 ∨ k = 5 ∨ k = 6 ∨ k = 7 ∨ k = 8 ∨ k = 9 := by omega
theorem qn0 {k : Nat} (h : k < 10) : callable Tryz.prog (stepF k) = true := by
 rcases fewer h with rfl | rfl | rfl | rfl | rfl | rfl | rfl | rfl | rfl | rfl <;> kernel_rfl
theorem qvt (gm : Nat) {k : Nat} (h : k < 10) : (#[.func (.func 31) #[vP gm 0] #[], .func (.func 32) #[vP gm 0] #[], .func (.func 33) #[vP gm 0] #[], .func (.func 33) #[vP gm 0] #[], .func (.func 34) #[vP gm 0] #[], .func (.func 35) #[vP gm 0] #[], .func (.func 36) #[vP gm 0] #[], .func (.func 37) #[vP gm 0] #[], .func (.func 38) #[vP gm 0] #[], .func (.func 39) #[vP gm 0] #[]] : Array Value)[k]? = some (.func (.func (stepF k)) #[vP gm 0] #[]) := by
 rcases fewer h with rfl | rfl | rfl | rfl | rfl | rfl | rfl | rfl | rfl | rfl <;> rfl
section
variable {W w : World} {F T : List Fact} {x y : Stm} {ng nl nu nt ns gm : Nat} {o : Op30}
theorem qn1 {k : Nat} (n : Nat) (HM : Mem W w F) (he : F.drop n = mdA gm x ng nl nu nt ns ++ T) (hx : MdOk x ng nl nu nt ns) (hG : GoodS x.sta) (ho : o.Ok) (h : k < 10) (hk : o.kind = k + 1) : Calls Tryz.prog (stepF k) #[vP gm 0, .agg o.cells] w (OpIs W gm (F.take n ++ T) (stepS x.sta o)) := by
 have HM2 := HM.front n he
 have hcur := (qk7 hG.sh.sort).2 hG.cur
 unfold stepS
 rcases fewer h with rfl | rfl | rfl | rfl | rfl | rfl | rfl | rfl | rfl | rfl <;> rw [hk]
 ·exact qla W w x gm ng nl nu nt ns hx o ho _ HM2
 ·exact qk8 W w x gm ng nl nu nt ns hx o ho _ HM2
 ·exact qgg W w x gm ng nl nu nt ns hx o ho _ HM2 hcur
 ·exact qgg W w x gm ng nl nu nt ns hx o ho _ HM2 hcur
 ·exact qnu W w x gm ng nl nu nt ns hx o ho _ HM2 hcur
 ·exact qnt W w x gm ng nl nu nt ns hx o ho _ HM2
 ·exact qgv W w x gm ng nl nu nt ns hx o ho _ HM2
 ·exact qih W w x gm ng nl nu nt ns hx o ho _ HM2
 ·exact qij W w x gm ng nl nu nt ns hx o ho _ HM2
 ·exact qik W w x gm ng nl nu nt ns hx o ho _ HM2
theorem qwy (HM : Mem W w (mdB gm y ++ T)) (hy : GoodS y.sta) : Calls Tryz.prog 40 #[vP gm 0] w (fun r w' => ∃ z : Stm, r = .returned (.tuple #[]) ∧ z.sta = riseS y.sta ∧ Mem W w' (mdB gm z ++ T)) :=
 (qns W w y gm _ _ _ _ _ (qal hy.sh) T HM).mono fun r w' ⟨rs2, e, hl, _, hs, hm⟩ => ⟨{ y with rs := rs2 }, e, hs, Mem.toB hm ⟨rfl, rfl, rfl, rfl, hl⟩⟩
def FailS (s : Sta) (out : Out30) : Prop := out.2.2 ≠ 0 → out.1 = s ∧ out.2.1 = 0
theorem qn2 (s : Sta) (o : Op30) : FailS s (stepS s o) := by
 have key : ∀ e : Nat, FailS s (s, 0, e) := fun e _ => ⟨rfl, rfl⟩
 have key2 : ∀ (t : Sta) (g : Int), FailS s (t, g, 0) := fun t g h => absurd rfl h
 unfold stepS
 split
 ·unfold qb9; repeat' split
  all_goals first | exact key _ | exact key2 _ _
 ·unfold qca; repeat' split
  all_goals first | exact key _ | exact key2 _ _
 ·unfold qai; repeat' split
  all_goals first | exact key _ | exact key2 _ _
 ·unfold qai; repeat' split
  all_goals first | exact key _ | exact key2 _ _
 ·unfold tickS; repeat' split
  all_goals first | exact key _ | exact key2 _ _ | (dsimp only; split <;> exact key2 _ _)
 ·unfold pickS; repeat' split
  all_goals first | exact key _ | exact key2 _ _
 ·unfold zk; repeat' split
  all_goals first | exact key _ | exact key2 _ _
 ·unfold z8; repeat' split
  all_goals first | exact key _ | exact key2 _ _
 ·unfold qad; repeat' split
  all_goals first | exact key _ | exact key2 _ _
 ·unfold zu; repeat' split
  all_goals first | exact key _ | exact key2 _ _
 ·exact key _
theorem qqt {s : Sta} (h : (stepS s o).2.2 ≠ 0) : (stepS s o).1 = s ∧ (stepS s o).2.1 = 0 := qn2 s o h
theorem qqu {s : Sta} (h : o.kind < 1 ∨ 10 < o.kind) : doS s o = (s, 0, 2) := by
 have e : stepS s o = (s, 0, 2) := by
  unfold stepS
  split <;> first | rfl | omega
 unfold doS
 rw [e]
 rfl
theorem qgh {s : Sta} (h : (stepS s o).2.2 ≠ 0) : doS s o = (s, 0, (stepS s o).2.2) := by unfold doS; rw [if_pos h]
theorem qim {s : Sta} (h : (stepS s o).2.2 = 0) : doS s o = (riseS (stepS s o).1, (stepS s o).2.1, 0) := by unfold doS; rw [if_neg om]
end
theorem qtf (W w : World) (x : Stm) (gm : Nat) (ng nl nu nt ns : Nat) (hx : MdOk x ng nl nu nt ns) (hG : GoodS x.sta) (o : Op30) (ho : o.Ok) (T : List Fact) (HM : Mem W w (mdA gm x ng nl nu nt ns ++ T)) :
    Calls Tryz.prog 13 #[vP gm 0, .agg o.cells] w (OpIs W gm T (doS x.sta o)) := by
 obtain ⟨cp, cr, gA, gc, gs, lA, lc, cl, uA, uc, cu, tA, tc, ts, sA, sc, rs⟩ := x
 replace HM : Mem W w (fM gm cp cr gA ng gc lA nl lc uA nu uc tA nt tc sA ns sc :: fG gA ng gc gs :: fI lA nl lc cl :: fI uA nu uc cu :: fT tA nt tc ts :: fS sA ns sc rs :: (fR rs ++ (T))) := HM
 obtain ⟨hlg, hll, hlu, hlt, hls⟩ := hx.ln
 replace hlg : gs.length = ng := hlg; replace hll : cl.length = nl := hll; replace hlu : cu.length = nu := hlu; replace hlt : ts.length = nt := hlt; replace hls : rs.length = ns := hls
 have hok8 := ho.kind
 refine (Jin2 HM Tryz.func13 67) ?_
 refine (JP∘JE) fun w3 g3 => (Jp 2∘Jj∘JQ∘JP∘Jp 1∘Jy (v := .bool false) (h:=by exact Yl.qht rfl rfl rfl)∘Jp 2∘Jn∘Jg 7 O1∘Jp 2∘Jd6∘Jj∘JF∘JS'∘JP∘Jp 1∘Jy (h:=by exact Yl.makeFunc (fst := [vP gm 0]) (caps := []) rfl rfl rfl)∘Jp 1∘Jy (h:=by exact Yl.makeFunc (fst := [vP gm 0]) (caps := []) rfl rfl rfl)∘Jp 1∘Jy (h:=by exact Yl.makeFunc (fst := [vP gm 0]) (caps := []) rfl rfl rfl)∘Jp 1∘Jy (h:=by exact Yl.makeFunc (fst := [vP gm 0]) (caps := []) rfl rfl rfl)∘Jp 1∘Jy (h:=by exact Yl.makeFunc (fst := [vP gm 0]) (caps := []) rfl rfl rfl)∘Jp 1∘Jy (h:=by exact Yl.makeFunc (fst := [vP gm 0]) (caps := []) rfl rfl rfl)∘Jp 1∘Jy (h:=by exact Yl.makeFunc (fst := [vP gm 0]) (caps := []) rfl rfl rfl)∘Jp 1∘Jy (h:=by exact Yl.makeFunc (fst := [vP gm 0]) (caps := []) rfl rfl rfl)∘Jp 1∘Jy (h:=by exact Yl.makeFunc (fst := [vP gm 0]) (caps := []) rfl rfl rfl)∘Jp 1∘Jy (h:=by exact Yl.makeFunc (fst := [vP gm 0]) (caps := []) rfl rfl rfl)∘JU ei_fn #[.func (.func 31) #[vP gm 0] #[], .func (.func 32) #[vP gm 0] #[], .func (.func 33) #[vP gm 0] #[], .func (.func 33) #[vP gm 0] #[], .func (.func 34) #[vP gm 0] #[], .func (.func 35) #[vP gm 0] #[], .func (.func 36) #[vP gm 0] #[], .func (.func 37) #[vP gm 0] #[], .func (.func 38) #[vP gm 0] #[], .func (.func 39) #[vP gm 0] #[]]) fun w38 g38 => (Jp 1∘Jd6∘Jj∘JQ∘JP∘Jg 0 O1∘Jp 2) (Ji (fun hd42 => ?_) fun hd42 => ?_)
 ·
  exact (Jp 7∘Jd6∘Jj∘JT∘JP∘Jp 2∘Jj∘JZ∘Jz2) fun HM => by exact qs (y := (⟨cp, cr, gA, gc, gs, lA, lc, cl, uA, uc, cu, tA, tc, ts, sA, sc, rs⟩ : Stm)) 2 HM rfl hx.ln (qqu om)
 refine (Jg 0 O1∘Jw .i64∘Jp 1∘Jl∘Jp 2∘Jd6∘Jj) (Ju (fun hb49 => ?_) fun hb49 => ?_)
 ·
  intro a I HM
  have hd49 := of_decide_eq_true hb49
  exact Jb I HM ((JT∘JP∘Jp 2∘Jj∘JZ∘Jz2) fun HM => by exact qs (y := (⟨cp, cr, gA, gc, gs, lA, lc, cl, uA, uc, cu, tA, tc, ts, sA, sc, rs⟩ : Stm)) 2 HM rfl hx.ln (qqu om))
 intro a I HM
 have hd49 := of_decide_eq_false hb49
 obtain ⟨k, hkk⟩ : ∃ k : Nat, o.kind = k + 1 := ⟨o.kind - 1, by omega⟩
 have hk10 : k < 10 := by omega
 refine Jb I HM ((JF∘JS') fun a I HM => ?_)
 refine wp_seq ?_
 refine qgx HM [.blk g38 #[.func (.func 31) #[vP gm 0] #[], .func (.func 32) #[vP gm 0] #[], .func (.func 33) #[vP gm 0] #[], .func (.func 33) #[vP gm 0] #[], .func (.func 34) #[vP gm 0] #[], .func (.func 35) #[vP gm 0] #[], .func (.func 36) #[vP gm 0] #[], .func (.func 37) #[vP gm 0] #[], .func (.func 38) #[vP gm 0] #[], .func (.func 39) #[vP gm 0] #[]] 59, .blk g3 o.cells 52] [0, 1] [] fun HM HS => ?_
 refine ap I (fun _ => HS) [0, 1] (bf 13 [0, 1]) [(52, vP g3 0), (51, vS g38 10 10)] fun a I => ?_
 refine s_ac I HS 2 1 (v := vB o.kind) fun a I => ?_
 refine zh I (fun _ => HS) (i := 3) rfl rfl (d := 54) rfl de kr (fun _ _ _ h => h) (v := vB (IntKind.u8.wrap ((o.kind : Int) - 1))) (fun _ => Yl.pure kr) fun a I => ?_
 replace I := I.sp 54 (vB k) rfl (by rw [IntKind.wrap_u8]; congr 1; omega)
 refine s_az I HS 4 rfl (v := vP g38 (k * 1)) (Yl.ix0 g38 k 1 rfl rfl rfl) fun a I => ?_
 refine s_az I HS 5 rfl (v := .func (.func (stepF k)) #[vP gm 0] #[]) (Yl.qo rfl rfl kr (fun _ h => h.cell (i := 0) rfl (by rw [Nat.mul_one]; exact qvt gm hk10))) fun a I => ?_
 refine s_az I HS 6 rfl (v := .agg o.cells) (Yl.loadS rfl rfl si_op rfl (fun _ h => qa (h.blk (i := 1) rfl))) fun a I => ?_
 refine s_on I 7 rfl ?_
 refine qci I (f := (stepF k)) (vs := [.agg o.cells]) (fst := [vP gm 0]) (caps := []) rfl rfl rfl (qn0 hk10) rfl de (qn1 2 HM rfl hx hG ho hk10 hkk) ?_
 rintro _ w58 ⟨y, rfl, hyq, HM2⟩
 refine ⟨_, rfl, ?_⟩
 replace HM := (show Mem W w58 (.blk g38 #[.func (.func 31) #[vP gm 0] #[], .func (.func 32) #[vP gm 0] #[], .func (.func 33) #[vP gm 0] #[], .func (.func 33) #[vP gm 0] #[], .func (.func 34) #[vP gm 0] #[], .func (.func 35) #[vP gm 0] #[], .func (.func 36) #[vP gm 0] #[], .func (.func 37) #[vP gm 0] #[], .func (.func 38) #[vP gm 0] #[], .func (.func 39) #[vP gm 0] #[]] 59 :: .blk g3 o.cells 52 :: (mdB gm y ++ (T))) from HM2.back)
 clear I; intro a I
 refine keepS (HM.pk [0, 1]) (fun HS => ?_)
 refine ap I (fun _ => HS) [8, 9, 10, 11, 12] (bt 13 []) [(8, vI ((stepS (⟨cp, cr, gA, gc, gs, lA, lc, cl, uA, uc, cu, tA, tc, ts, sA, sc, rs⟩ : Stm).sta o).2.2)), (7, vI ((stepS (⟨cp, cr, gA, gc, gs, lA, lc, cl, uA, uc, cu, tA, tc, ts, sA, sc, rs⟩ : Stm).sta o).2.1))] fun a I => ?_
 refine qb kr ?_
 refine Jb I HM ((JQ∘JP∘Jp 2∘Jd1∘Jj) (Ju (fun hb62 => ?_) fun hb62 => ?_))
 ·
  intro a I HM
  have hd62 := bne_iff_ne.1 hb62
  replace hd62 : (stepS (⟨cp, cr, gA, gc, gs, lA, lc, cl, uA, uc, cu, tA, tc, ts, sA, sc, rs⟩ : Stm).sta o).2.2 ≠ 0 := by omega
  exact Jb I HM ((JT∘JP∘Jp 3∘Jj∘JZ∘Jz2) fun HM => by rw [qgh hd62]; exact ⟨y, rfl, hyq.trans (qqt hd62).1, HM.dropN 2 rfl⟩)
 intro a I HM
 have hd62 := bne_eq_false_iff_eq.1 hb62
 replace hd62 : (stepS (⟨cp, cr, gA, gc, gs, lA, lc, cl, uA, uc, cu, tA, tc, ts, sA, sc, rs⟩ : Stm).sta o).2.2 = 0 := by omega
 have hse := hd62
 have hyg : GoodS y.sta := by rw [hyq]; exact qgd ho hG hse
 refine Jb I HM ((JF∘JS'∘JP∘Jp 1∘JL (h:=by exact fun HM => qwy (HM.dropN 2 rfl) hyg)) ?_)
 rintro HM _ w65 ⟨z, rfl, hzq, HM2⟩
 refine ⟨_, rfl, _, HM2, ?_⟩
 exact (Jt2∘Jr∘Jp 3∘Jj∘JZ∘Jz2) fun HM => by rw [qim hse]; exact ⟨z, rfl, hzq.trans (by rw [hyq]), HM⟩
def qgi (w : World) (e : TypeId) (sz n : Nat) (xs : List Value) (r : Ending) (w' : World) : Prop :=
 (∃ A c, r = .returned (.slice A n c) ∧ w'.ownsRow w.heap.size e sz (.slice A n c) n xs ∧ n ≤ c) ∧ Below w.heap.size w w'
theorem qc6 {w w' : World} {e : TypeId} {sz n : Nat} {xs : List Value} {A : Option Addr} (hr : Rd w w.heap.size sz A n xs) (h : A.isNone = true) (hb : Below w.heap.size w w') : qgi w e sz n xs (.returned (.slice none 0 0)) w' := by
 have hn : n = 0 := by
  rcases Nat.eq_zero_or_pos n with h0 | h0
  ·exact h0
  ·obtain ⟨ad, rfl, _⟩ := hr.row h0
   cases h
 subst hn
 have hx : xs = [] := List.length_eq_zero_iff.1 (by rw [hr.len]; omega)
 subst hx
 exact ⟨⟨none, 0, rfl, World.ownsRow_nil _ _ _ _, Nat.le_refl _⟩, hb⟩
def rwUp (z : List Rw) (m : Nat) : List Rw := z ++ List.replicate m Rw.zero
theorem qmn (z : List Rw) (m : Nat) : (rwUp z m).length = z.length + m := by unfold rwUp; rw [List.length_append, List.length_replicate]
theorem qmo {α : Type} (F : α → Value) (z : α) (m : Nat) : (madeCells #[F z] (m * 1)).toList = (List.replicate m z).map F := by
 rw [Nat.mul_one]
 unfold madeCells
 refine List.ext_getElem (by simp) fun i h1 h2 => ?_
 simp [Nat.mod_one]
theorem qqv (m : Nat) : (madeCells #[.slice none 0 0] (m * 1)).toList = (rwUp [] m).map Rw.val := qmo Rw.val Rw.zero m
theorem qn3 (m : Nat) : (madeCells (Value.slice none 0 0).cells (m * 1)).toList = (rwUp [] m).map Rw.val := qqv m
theorem qtg {z : List Rw} {m : Nat} (y : Rw) (h : 0 < m) : (rwUp z m).set z.length y = rwUp (z ++ [y]) (m - 1) := by
 obtain ⟨k, rfl⟩ : ∃ k, m = k + 1 := ⟨m - 1, by omega⟩
 unfold rwUp
 rw [List.set_append, if_neg om, Nat.sub_self, List.replicate_succ, List.set_cons_zero, List.append_assoc]
 rfl
theorem qqw (z : List Rw) : rwUp z 0 = z := by unfold rwUp; rw [List.replicate_zero, List.append_nil]
theorem qqx {w w' : World} {x : Stm} {z : List Rw} {n i g gc lc uc tc : Nat} {gA lA uA tA : Option Addr} (hz : z.length = i) (hi : i = n) (h1 : x.gs.length ≤ gc) (h2 : x.cl.length ≤ lc) (h3 : x.cu.length ≤ uc) (h4 : x.ts.length ≤ tc) (h5 : ∀ q ∈ z, q.l.length ≤ q.c) (h6 : x.rs.map Rw.l = z.map Rw.l)
  (hm : Mem w w' (.row (.slice gA x.gs.length gc) x.gs.length (x.gs.flatMap grL) 50 2 :: .row (.slice lA x.cl.length lc) x.cl.length (x.cl.map I64i) 3 1 :: .row (.slice uA x.cu.length uc) x.cu.length (x.cu.map I64i) 3 1 :: .row (.slice tA x.ts.length tc) x.ts.length (x.ts.flatMap tkL) 81 8 :: .row (.slice (some ⟨g, 0, none⟩) n n) n ((rwUp z (n - i)).map Rw.val) 63 1 :: rwF 83 z)) :
  ql3 w x (.returned (.agg #[.int .i64 x.cpus, .int .u64 (x.credit : Int), .slice gA x.gs.length gc, .slice lA x.cl.length lc, .slice uA x.cu.length uc, .slice tA x.ts.length tc, .slice (some ⟨g, 0, none⟩) n n])) w' := by
 subst hz
 subst hi
 rw [Nat.sub_self, qqw] at hm
 exact ⟨⟨x.cpus, x.credit, gA, gc, x.gs, lA, lc, x.cl, uA, uc, x.cu, tA, tc, x.ts, some ⟨g, 0, none⟩, z.length, z⟩, rfl, ⟨⟨rfl, rfl, rfl⟩, rfl, rfl, rfl, h6⟩, ⟨h1, h2, h3, h4, Nat.le_refl _, h5⟩, hm⟩
theorem qlb (A : Option Addr) (c : Nat) (l : List Gr) (w : World) (hr : Rd w w.heap.size 2 A l.length (l.flatMap grL)) (hn : l.length ≤ 1000000) :
    Calls Tryz.prog 66 #[.slice A l.length c] w (qgi w 50 2 l.length (l.flatMap grL)) := by
 refine (JN1 Tryz.func66 8) ?_
 refine (JP∘Jp 1∘Jj∘JQ∘JP∘Jp 1∘Jy (v := .bool A.isNone) (h:=by exact Yl.qub rfl rfl rfl)∘Jd1∘Jj) (Ju (fun hb4 => ?_) fun hb4 => ?_)
 ·
  exact (JT∘JP∘Jp 1∘Jj∘JZ∘Jz1) fun HM => qc6 hr (by simpa using hb4) HM.below
 refine (JF∘JS'∘JP) fun a I HM => ?_
 refine fo I 0 rfl rfl ?_
 refine qac I HM rfl ei_gr rfl de ?_
 clear I HM; intro a w5 g5 I HM
 refine Jb I HM ((Jp 1∘JD (l.flatMap grL) 0 (fun _ _ => O0') ei_gr (hr:=by exact fun HM => HM.old hr) (h1:=by exact ql4 _)) fun w7 A7 c7 hc7 => fun a I HM => ?_)
 have hnA7 : 0 + l.length = l.length := Nat.zero_add _
 replace HM := HM.reRow (i := 0) (ys := l.flatMap grL) rfl hnA7 (rfl)
 rw [hnA7] at hc7
 replace I := I.sp 7 (.slice A7 l.length c7) rfl (by rw [hnA7])
 exact Jb I HM ((Jp 1∘Jd4∘Jj∘JZ∘Jz1) fun HM => by exact ⟨⟨_, _, rfl, HM.own (i := 0) rfl, hc7⟩, HM.below⟩)
theorem qe9 (A : Option Addr) (c : Nat) (l : List Int) (w : World) (hr : Rd w w.heap.size 1 A l.length (l.map I64i)) (hn : l.length ≤ 1000000) :
    Calls Tryz.prog 67 #[.slice A l.length c] w (qgi w 3 1 l.length (l.map I64i)) := by
 refine (JN1 Tryz.func67 8) ?_
 refine (JP∘Jp 1∘Jj∘JQ∘JP∘Jp 1∘Jy (v := .bool A.isNone) (h:=by exact Yl.qub rfl rfl rfl)∘Jd1∘Jj) (Ju (fun hb4 => ?_) fun hb4 => ?_)
 ·
  exact (JT∘JP∘Jp 1∘Jj∘JZ∘Jz1) fun HM => qc6 hr (by simpa using hb4) HM.below
 refine (JF∘JS'∘JP) fun a I HM => ?_
 refine fo I 0 rfl rfl ?_
 refine qac I HM rfl zd rfl de ?_
 clear I HM; intro a w5 g5 I HM
 refine Jb I HM ((Jp 1∘JD (l.map I64i) 0 (fun _ _ => O0') zd (hr:=by exact fun HM => HM.old hr) (h1:=by exact qkx _)) fun w7 A7 c7 hc7 => fun a I HM => ?_)
 have hnA7 : 0 + l.length = l.length := Nat.zero_add _
 replace HM := HM.reRow (i := 0) (ys := l.map I64i) rfl hnA7 (rfl)
 rw [hnA7] at hc7
 replace I := I.sp 7 (.slice A7 l.length c7) rfl (by rw [hnA7])
 exact Jb I HM ((Jp 1∘Jd4∘Jj∘JZ∘Jz1) fun HM => by exact ⟨⟨_, _, rfl, HM.own (i := 0) rfl, hc7⟩, HM.below⟩)
theorem qlc (A : Option Addr) (c : Nat) (l : List Tk) (w : World) (hr : Rd w w.heap.size 8 A l.length (l.flatMap tkL)) (hn : l.length ≤ 1000000) :
    Calls Tryz.prog 68 #[.slice A l.length c] w (qgi w 81 8 l.length (l.flatMap tkL)) := by
 refine (JN1 Tryz.func68 8) ?_
 refine (JP∘Jp 1∘Jj∘JQ∘JP∘Jp 1∘Jy (v := .bool A.isNone) (h:=by exact Yl.qub rfl rfl rfl)∘Jd1∘Jj) (Ju (fun hb4 => ?_) fun hb4 => ?_)
 ·
  exact (JT∘JP∘Jp 1∘Jj∘JZ∘Jz1) fun HM => qc6 hr (by simpa using hb4) HM.below
 refine (JF∘JS'∘JP) fun a I HM => ?_
 refine fo I 0 rfl rfl ?_
 refine qac I HM rfl ei_tk rfl de ?_
 clear I HM; intro a w5 g5 I HM
 refine Jb I HM ((Jp 1∘JD (l.flatMap tkL) 0 (fun _ _ => O0') ei_tk (hr:=by exact fun HM => HM.old hr) (h1:=by exact qbs _)) fun w7 A7 c7 hc7 => fun a I HM => ?_)
 have hnA7 : 0 + l.length = l.length := Nat.zero_add _
 replace HM := HM.reRow (i := 0) (ys := l.flatMap tkL) rfl hnA7 (rfl)
 rw [hnA7] at hc7
 replace I := I.sp 7 (.slice A7 l.length c7) rfl (by rw [hnA7])
 exact Jb I HM ((Jp 1∘Jd4∘Jj∘JZ∘Jz1) fun HM => by exact ⟨⟨_, _, rfl, HM.own (i := 0) rfl, hc7⟩, HM.below⟩)
theorem qld (A : Option Addr) (c : Nat) (l : List Sp) (w : World) (hr : Rd w w.heap.size 3 A l.length (l.flatMap spL)) (hn : l.length ≤ 1000000) :
    Calls Tryz.prog 69 #[.slice A l.length c] w (qgi w 83 3 l.length (l.flatMap spL)) := by
 refine (JN1 Tryz.func69 8) ?_
 refine (JP∘Jp 1∘Jj∘JQ∘JP∘Jp 1∘Jy (v := .bool A.isNone) (h:=by exact Yl.qub rfl rfl rfl)∘Jd1∘Jj) (Ju (fun hb4 => ?_) fun hb4 => ?_)
 ·
  exact (JT∘JP∘Jp 1∘Jj∘JZ∘Jz1) fun HM => qc6 hr (by simpa using hb4) HM.below
 refine (JF∘JS'∘JP) fun a I HM => ?_
 refine fo I 0 rfl rfl ?_
 refine qac I HM rfl ei_sp rfl de ?_
 clear I HM; intro a w5 g5 I HM
 refine Jb I HM ((Jp 1∘JD (l.flatMap spL) 0 (fun _ _ => O0') ei_sp (hr:=by exact fun HM => HM.old hr) (h1:=by exact quj _)) fun w7 A7 c7 hc7 => fun a I HM => ?_)
 have hnA7 : 0 + l.length = l.length := Nat.zero_add _
 replace HM := HM.reRow (i := 0) (ys := l.flatMap spL) rfl hnA7 (rfl)
 rw [hnA7] at hc7
 replace I := I.sp 7 (.slice A7 l.length c7) rfl (by rw [hnA7])
 exact Jb I HM ((Jp 1∘Jd4∘Jj∘JZ∘Jz1) fun HM => by exact ⟨⟨_, _, rfl, HM.own (i := 0) rfl, hc7⟩, HM.below⟩)
theorem qhl (x : Stm) (w : World) (hx : StRd w x) (hf : StFew x) :
    Calls Tryz.prog 27 #[.agg x.cells] w (ql3 w x) := by
 have hfg := hf.g; have hfl := hf.l; have hfu := hf.u; have hft := hf.t; have hfs := hf.s
 refine (JN1 Tryz.func27 45) ?_
 refine (JP∘JE) fun w1 g1 => (JA #[vI 0, vQ 0, vN, vN, vN, vN, vN]) fun w2 g2 => (Jr∘Jf 0∘Jg 2 O1∘JK (h:=by exact fun HM => qlb x.gA x.gc x.gs _ (HM.old hx.g) (hf.g))) fun A9 c9 w9 hc9 => (Jf 0∘Jf 2) fun a I HM => ?_
 refine fo I 6 rfl rfl ?_
 refine zr I HM (i := 2) rfl rfl rfl rfl kr rfl rfl (by simp [Stm.cells]) fun w1_6 HM => ?_
 refine Jb I HM ((Jt5∘Jj) fun a I HM => ?_)
 refine wp_seq ?_
 refine Jb I HM ((Vs .n [10, 12, 14]) fun wd2 => (Vf 0 3∘Vf 3 4∘Vf 6 5∘Vc 1 O2∘Vc 4 O2∘Vc 7 O2∘VK 2 .n (h:=by exact fun HM => qe9 x.lA x.lc x.cl _ (HM.old hx.l) (hf.l))) fun A14 c14 w14 hc14 => (Vf 9 3∘VK 5 (.f .n) (h:=by exact fun HM => qe9 x.uA x.uc x.cu _ (HM.old hx.u) (hf.u))) fun A17 c17 w17 hc17 => (VK 8 (.f (.f .n)) (h:=by exact fun HM => qlc x.tA x.tc x.ts _ (HM.old hx.t) (hf.t))) fun A20 c20 w20 hc20 => fun a I HM HS => ?_)
 refine s_on I 10 rfl ?_
 refine zr I HM (i := 5) rfl rfl rfl rfl kr rfl rfl (by simp [Stm.cells]) fun w2_10 HM => ?_
 refine noS kr ?_
 refine ap I (pastS kr) [11] (bt 15 [12, 13, 14]) [(22, vP g1 4)] fun a I => ?_
 refine s_on I 12 rfl ?_
 refine zr I HM (i := 5) rfl rfl rfl rfl kr rfl rfl (by simp [Stm.cells]) fun w2_12 HM => ?_
 refine noS kr ?_
 refine ap I (pastS kr) [13] (bt 15 [14]) [(23, vP g1 5)] fun a I => ?_
 refine s_on I 14 rfl ?_
 refine zr I HM (i := 5) rfl rfl rfl rfl kr rfl rfl (by simp [Stm.cells]) fun w2_14 HM => ?_
 refine noS kr ?_
 refine qb kr ?_
 refine Jb I HM ((JP∘Jg 6 O5∘Jl) fun a I HM => ?_)
 refine fo I 3 rfl rfl ?_
 refine zm I HM (m := x.rs.length) rfl ei_rw rfl rfl om om rfl de ?_
 clear I HM; intro a w27 g27 I HM
 refine Jb I HM ((Jp 1∘Jd6∘Jq) fun a I HM => ?_)
 rw [qn3] at HM
 replace HM := HM.newTail 83 3
 replace HM : Mem w _ (.row (vS g27 x.rs.length x.rs.length) x.rs.length ((rwUp [] x.rs.length).map Rw.val) 63 1 :: .row (.slice A20 x.ts.length c20) x.ts.length (x.ts.flatMap tkL) 81 8 :: .row (.slice A17 x.cu.length c17) x.cu.length (x.cu.map I64i) 3 1 :: .row (.slice A14 x.cl.length c14) x.cl.length (x.cl.map I64i) 3 1 :: .row (.slice A9 x.gs.length c9) x.gs.length (x.gs.flatMap grL) 50 2 :: .blk g2 #[vI 0, vQ 0, vN, vN, vN, vN, vN] 45 :: .blk g1 #[vI x.cpus, vQ x.credit, .slice A9 x.gs.length c9, .slice A14 x.cl.length c14, .slice A17 x.cu.length c17, .slice A20 x.ts.length c20, .slice x.sA x.rs.length x.sc] 45 :: rwF 83 []) := HM
 refine Jb I HM ((JG∘JQ∘JP∘Jg 6 O6∘Jl∘Jp 1∘Jj∘JB) fun a I HM => ?_)
 refine qi (fun mS aS wS => ∃ (i : Nat) (z : List Rw), (i ≤ x.rs.length) ∧ (z.length = i) ∧ (z.map Rw.l = (x.rs.take i).map Rw.l) ∧ (∀ q ∈ z, q.l.length ≤ q.c) ∧ mS = x.rs.length - i ∧ Fr aS 45 [] [(31, vI i), (30, vI x.rs.length), (29, .slice x.sA x.rs.length x.sc), (3, vS g27 x.rs.length x.rs.length), (2, vP g2 0), (1, vP g1 0)] ∧ Mem w wS (.row (vS g27 x.rs.length x.rs.length) x.rs.length ((rwUp z (x.rs.length - i)).map Rw.val) 63 1 :: .row (.slice A20 x.ts.length c20) x.ts.length (x.ts.flatMap tkL) 81 8 :: .row (.slice A17 x.cu.length c17) x.cu.length (x.cu.map I64i) 3 1 :: .row (.slice A14 x.cl.length c14) x.cl.length (x.cl.map I64i) 3 1 :: .row (.slice A9 x.gs.length c9) x.gs.length (x.gs.flatMap grL) 50 2 :: .blk g2 #[vI 0, vQ 0, vN, vN, vN, vN, vN] 45 :: .blk g1 #[vI x.cpus, vQ x.credit, .slice A9 x.gs.length c9, .slice A14 x.cl.length c14, .slice A17 x.cu.length c17, .slice A20 x.ts.length c20, .slice x.sA x.rs.length x.sc] 45 :: rwF 83 z)) (m := x.rs.length - 0) ⟨0, [], Nat.zero_le _, rfl, rfl, (fun q h => by cases h), rfl, I.sub kr, HM.pt 7 [0, 1, 2, 3, 4, 5, 6]⟩ ?_
 clear I HM; rintro mS a w_ ⟨i, z, hi, hzl, hz, hzc, rfl, I, HM⟩
 refine Jb I HM ((JP∘Jp 1∘Jj∘JQ) (Ju (fun hb32 => ?_) fun hb32 => ?_))
 ·
  intro a I HM
  have hd32 := of_decide_eq_true hb32
  have hi32 : i < x.rs.length := by omega
  obtain ⟨y, hy⟩ : ∃ q, x.rs.getD i Rw.zero = q := ⟨_, rfl⟩
  have hyr : Rd w w.heap.size 3 y.A y.l.length (y.l.flatMap spL) := by rw [← hy]; exact hx.row hi32
  have hyl : y.l.length ≤ 1000000 := by rw [← hy]; exact hf.r _ (qm Rw.zero hi32)
  refine Jb I HM ((JT∘JS'∘JQ∘JB∘JP∘Jp 1) fun a I HM => ?_)
  obtain ⟨gq1, oq1, hq1, _⟩ := Rd.qt hx.s (Nat.lt_of_le_of_lt (Nat.zero_le _) (show i < x.rs.length from by omega)) de
  have hrq1 := hx.s; rw [hq1] at hrq1
  replace I := I.sp 29 (.slice (some ⟨gq1, oq1, none⟩) x.rs.length x.sc) rfl (by rw [hq1]; try rfl)
  refine Jb I HM ((Jy (h:=by exact Yl.ix gq1 oq1 i 1 rfl rfl rfl)∘Jy (v := .slice ((x.rs.getD i Rw.zero).A) ((x.rs.getD i Rw.zero).l.length) ((x.rs.getD i Rw.zero).c)) (h:=by exact Yl.o1 hrq1 i Rw.zero hi32 rfl rfl)∘Jo (.slice y.A y.l.length y.c) (by rw [hy])∘Jp 2∘Jj∘JR∘Jp 3∘JK (h:=by exact fun HM => qld y.A y.c y.l _ (HM.old hyr) (hyl))) fun A39 c39 w39 hc39 => (Jy (h:=by exact Yl.ix0 g27 i 1 rfl rfl rfl)) fun a I HM => ?_)
  refine fo I 5 rfl rfl ?_
  refine qv I HM (i := 1) rfl rfl rfl rfl kr rfl rfl (by rw [List.length_map, qmn]; omega) fun w7_5 HM => ?_
  replace HM := HM.asRow (i := 1) (ys := (rwUp (z ++ [(⟨A39, c39, y.l⟩ : Rw)]) (x.rs.length - (i + 1))).map Rw.val) rfl ((qa6 Rw.val _ i (⟨A39, c39, y.l⟩ : Rw) (by rw [qmn]; omega)).trans (by rw [show i = z.length from hzl.symm, qtg (⟨A39, c39, y.l⟩ : Rw) om]; rfl))
  refine Jb I HM ((Jt5∘Jq) fun a I HM => ?_)
  replace HM := HM.pt (fs' := (.row (.slice A39 y.l.length c39) y.l.length (y.l.flatMap spL) 83 3 :: .row (vS g27 x.rs.length x.rs.length) x.rs.length ((rwUp (z ++ [(⟨A39, c39, y.l⟩ : Rw)]) (x.rs.length - (i + 1))).map Rw.val) 63 1 :: .row (.slice A20 x.ts.length c20) x.ts.length (x.ts.flatMap tkL) 81 8 :: .row (.slice A17 x.cu.length c17) x.cu.length (x.cu.map I64i) 3 1 :: .row (.slice A14 x.cl.length c14) x.cl.length (x.cl.map I64i) 3 1 :: .row (.slice A9 x.gs.length c9) x.gs.length (x.gs.flatMap grL) 50 2 :: .blk g2 #[vI 0, vQ 0, vN, vN, vN, vN, vN] 45 :: .blk g1 #[vI x.cpus, vQ x.credit, .slice A9 x.gs.length c9, .slice A14 x.cl.length c14, .slice A17 x.cu.length c17, .slice A20 x.ts.length c20, .slice x.sA x.rs.length x.sc] 45 :: rwF 83 z)) 8 [0, 1, 2, 3, 4, 5, 6, 7]
  replace HM := Mem.toRw (fs := [.row (vS g27 x.rs.length x.rs.length) x.rs.length ((rwUp (z ++ [(⟨A39, c39, y.l⟩ : Rw)]) (x.rs.length - (i + 1))).map Rw.val) 63 1, .row (.slice A20 x.ts.length c20) x.ts.length (x.ts.flatMap tkL) 81 8, .row (.slice A17 x.cu.length c17) x.cu.length (x.cu.map I64i) 3 1, .row (.slice A14 x.cl.length c14) x.cl.length (x.cl.map I64i) 3 1, .row (.slice A9 x.gs.length c9) x.gs.length (x.gs.flatMap grL) 50 2, .blk g2 #[vI 0, vQ 0, vN, vN, vN, vN, vN] 45, .blk g1 #[vI x.cpus, vQ x.credit, .slice A9 x.gs.length c9, .slice A14 x.cl.length c14, .slice A17 x.cu.length c17, .slice A20 x.ts.length c20, .slice x.sA x.rs.length x.sc] 45]) HM
  replace HM : Mem w _ (.row (vS g27 x.rs.length x.rs.length) x.rs.length ((rwUp (z ++ [(⟨A39, c39, y.l⟩ : Rw)]) (x.rs.length - (i + 1))).map Rw.val) 63 1 :: .row (.slice A20 x.ts.length c20) x.ts.length (x.ts.flatMap tkL) 81 8 :: .row (.slice A17 x.cu.length c17) x.cu.length (x.cu.map I64i) 3 1 :: .row (.slice A14 x.cl.length c14) x.cl.length (x.cl.map I64i) 3 1 :: .row (.slice A9 x.gs.length c9) x.gs.length (x.gs.flatMap grL) 50 2 :: .blk g2 #[vI 0, vQ 0, vN, vN, vN, vN, vN] 45 :: .blk g1 #[vI x.cpus, vQ x.credit, .slice A9 x.gs.length c9, .slice A14 x.cl.length c14, .slice A17 x.cu.length c17, .slice A20 x.ts.length c20, .slice x.sA x.rs.length x.sc] 45 :: rwF 83 (z ++ [(⟨A39, c39, y.l⟩ : Rw)])) := HM
  refine Jb I HM ((JG∘JR∘JaK 1∘Jp 1∘Jd1∘Jq) fun a I HM => ?_)
  replace I := I.sp 29 (.slice x.sA x.rs.length x.sc) rfl (by rw [hq1])
  exact ⟨_, om, i + 1, (z ++ [(⟨A39, c39, y.l⟩ : Rw)]), by omega, by rw [List.length_append, hzl]; rfl, by rw [List.map_append, hz, ql5 hi32, hy]; rfl, fun q h => (List.mem_append.1 h).elim (hzc q) (fun h => by rw [List.mem_singleton] at h; subst h; exact hc39), rfl, I.sub kr, HM.pt 7 [0, 1, 2, 3, 4, 5, 6]⟩
 intro a I HM
 have hd32 := of_decide_eq_false hb32
 have hzt : x.rs.take i = x.rs := List.take_of_length_le om
 have hil : i = x.rs.length := by omega
 refine Jb I HM ((JF∘JX∘JG∘JP∘Jp 1∘Jf 6∘JW O6' O6') fun w9_2 => (Jt2∘Jr∘Jy (v := .agg #[vI x.cpus, vQ x.credit, .slice A9 x.gs.length c9, .slice A14 x.cl.length c14, .slice A17 x.cu.length c17, .slice A20 x.ts.length c20, vS g27 x.rs.length x.rs.length]) (h:=by exact Yl.loadS rfl rfl si_st rfl (fun _ h => qa (h.blk (i := 6) rfl)))∘JV si_st O5') fun w10_1 => (Jt1∘Jj∘JZ) fun a I HM => ?_)
 exact ret1 rfl I (.cellS (i := 5) I HM rfl rfl si_st rfl) (qqx (x := x) (n := x.rs.length) (i := i) hzl hil hc9 hc14 hc17 hc20 hzc (by rw [hzt] at hz; exact hz.symm) (HM.pt 7 [4, 3, 2, 1, 0]))
def qqy (w : World) (x : Stm) (r : Ending) (w' : World) : Prop := ∃ y : Stm, r = .returned (.tuple #[.agg y.cells, .int .i64 0]) ∧ StaEq x y ∧ StCap y ∧ Mem w w' (stF y)
def qur (w : World) (s : Sta) (r : Ending) (w' : World) : Prop := ∃ (gm : Nat) (y : Stm), r = .returned (.tuple #[.pointer (some ⟨gm, 0, none⟩), .int .i64 0]) ∧ y.sta = s ∧ Mem w w' (mdB gm y)
def NewNo (w : World) (r : Ending) (w' : World) : Prop := r = .returned (.tuple #[.pointer none, .int .i64 2]) ∧ Below w.heap.size w w'
def NewIs (w : World) (b : Bool) (s : Sta) (r : Ending) (w' : World) : Prop := if b = true then qur w s r w' else NewNo w r w'
theorem qth {w w' : World} {b : Bool} {s : Sta} (h : b = false) (hb : Below w.heap.size w w') : NewIs w b s (.returned (.tuple #[.pointer none, .int .i64 2])) w' := by
 unfold NewIs
 rw [if_neg (by rw [h]; decide)]
 exact ⟨rfl, hb⟩
theorem qqz {w w' : World} {b : Bool} {s : Sta} {gm : Nat} {y : Stm} (h : b = true) (hs : y.sta = s) (hm : Mem w w' (mdB gm y)) : NewIs w b s (.returned (.tuple #[.pointer (some ⟨gm, 0, none⟩), .int .i64 0])) w' := by
 unfold NewIs
 rw [if_pos h]
 exact ⟨gm, y, rfl, hs, hm⟩
section
variable {W w w' : World} {F T fs gs : List Fact} {x y : Stm} {gm : Nat}
theorem Mem.mdRdB (n : Nat) (h : Mem W w F) (he : F.drop n = mdB gm x ++ T) : StRd w x := h.mdRd n he ⟨rfl, rfl, rfl, rfl, rfl⟩
theorem Mem.mdBlkB (n : Nat) (h : Mem W w F) (he : F.drop n = mdB gm x ++ T) : w.heap[gm]? = some (.cells #[.int .i64 x.cpus, .int .u64 (x.credit : Int), .slice x.gA x.gs.length x.gc, .slice x.lA x.cl.length x.lc, .slice x.uA x.cu.length x.uc, .slice x.tA x.ts.length x.tc, .slice x.sA x.rs.length x.sc, .bool true] 56 (0, 0)) := h.mdBlk n he ⟨rfl, rfl, rfl, rfl, rfl⟩
theorem Mem.qwj (h : Mem W w fs) {g : Nat} {cs ds : Array Value} {t : TypeId} (hb : W.heap[g]? = some (.cells cs t (0, 0))) (he : cs.toList.take ds.size = ds.toList) : w.rangeAt g 0 ds.toList := fun j u hu => by
 have hr := h.qxo hb
 refine hr j u ?_
 rw [← he, List.getElem?_take] at hu
 split at hu
 ·exact hu
 ·cases hu
theorem Mem.alone (h : Mem W w fs) (k : Mem w w' gs) : Mem W w' gs := (h.joinT k).dropN fs.length (by rw [List.drop_left])
end
theorem qq0 {α : Type} (f : α → List Value) (sz : Nat) (hf : ∀ x, (f x).length = sz) (h0 : 0 < sz) (z : α) (m : Nat) : (madeCells (f z).toArray (m * sz)).toList = (List.replicate m z).flatMap f := by
 unfold madeCells
 have hl : ((List.replicate m z).flatMap f).length = m * sz := by rw [q8 f sz hf, List.length_replicate]
 refine List.ext_getElem (by rw [hl]; simp) fun i h1 h2 => ?_
 have h3 : i < m * sz := by rw [← hl]; exact h2
 have hk : i / sz < (List.replicate m z).length := by rw [List.length_replicate]; exact Nat.div_lt_of_lt_mul (by rw [Nat.mul_comm]; exact h3)
 have hj := Nat.mod_lt i h0
 have h4 := qcd f sz hf (List.replicate m z) (i / sz) (i % sz) hk hj
 rw [show i / sz * sz + i % sz = i by rw [Nat.mul_comm]; exact Nat.div_add_mod i sz, List.getElem?_eq_getElem h2, List.getElem_replicate] at h4
 rw [List.getElem?_eq_getElem (by rw [hf]; exact hj)] at h4
 injection h4 with h4
 rw [h4]
 simp [hf]
 rw [List.getElem?_eq_getElem (by rw [hf]; exact hj)]
 rfl
theorem qq1 (m : Nat) : (madeCells (Value.agg #[.int .u64 0, .int .u32 0, .int .u64 0]).cells (m * 3)).toList = (List.replicate m Sp.zero).flatMap spL := qq0 spL 3 (fun _ => rfl) de Sp.zero m
theorem qj8 (m : Nat) : (madeCells #[.int .i64 0] (m * 1)).toList = (List.replicate m (0 : Int)).map I64i := qmo I64i 0 m
theorem qti (m : Nat) : (madeCells #[.int .u64 0, .int .u32 0, .int .u64 0] (m * 3)).toList = (List.replicate m Sp.zero).flatMap spL := qq1 m
def qcu (w : World) (cp o a0 : Int) (r : Ending) (w' : World) : Prop := (∃ (a : Int) (e : Nat), r = .returned (.tuple #[vI a, vI e]) ∧ if 0 ≤ o ∧ o < cp then a = a0 ∧ e = 0 else a = 0 ∧ e = 300) ∧ Below w.heap.size w w'
theorem qhm {w w' : World} {cp o a0 : Int} (h : ¬ (0 ≤ o ∧ o < cp)) (hb : Below w.heap.size w w') : qcu w cp o a0 (.returned (.tuple #[vI 0, vI 300])) w' := ⟨⟨0, 300, rfl, by rw [if_neg h]; exact ⟨rfl, rfl⟩⟩, hb⟩
theorem qgj {w w' : World} {cp o a0 a : Int} (h : 0 ≤ o ∧ o < cp) (ha : a = a0) (hb : Below w.heap.size w w') : qcu w cp o a0 (.returned (.tuple #[vI a, vI 0])) w' := ⟨⟨a, 0, rfl, by rw [if_pos h]; exact ⟨ha, rfl⟩⟩, hb⟩
theorem qj9 (x : Stm) (gm : Nat) (w : World) (hf : StFew x) (hx : StRd w x) (hm : w.heap[gm]? = some (.cells #[vI x.cpus, vQ x.credit, .slice x.gA x.gs.length x.gc, .slice x.lA x.cl.length x.lc, .slice x.uA x.cu.length x.uc, .slice x.tA x.ts.length x.tc, .slice x.sA x.rs.length x.sc, .bool true] 56 (0, 0))) :
    Calls Tryz.prog 14 #[vP gm 0] w (qqy w x) := by
 refine (JN1 Tryz.func14 19) ?_
 refine (JP∘JA #[vI 0, vQ 0, vN, vN, vN, vN, vN]) fun w2 g2 => (Jp 1∘Jj∘JQ∘JP∘Jp 1∘Jy (v := .bool false) (h:=by exact Yl.qht rfl rfl rfl)∘Jp 2∘Jn∘Jf 7∘Jy (v := .bool true) (h:=by exact Yl.qo rfl rfl kr (fun _ h => h.qay hm rfl))∘Jp 2∘Jd6∘Jj∘JF∘JS'∘JP∘Jp 1∘Jn∘Jf 0∘Jy (v := .agg x.cells) (h:=by exact Yl.loadS rfl rfl si_st rfl (fun _ h => h.qwj hm rfl))∘JL (h:=by exact fun HM => qhl x _ (hx.old HM) (hf))) ?_
 rintro HM _ w18 ⟨y, rfl, heq, hcap, hm⟩
 refine ⟨_, rfl, _, (show Mem w _ (.blk g2 #[vI 0, vQ 0, vN, vN, vN, vN, vN] 45 :: stF y) from HM.joinT hm), ?_⟩
 refine (JV si_st O0' (h1:=by exact qz y)) fun w3_5 => (Jp 1∘Jd5∘Jj∘JZ) fun a I HM => ?_
 exact ret2 rfl I (.cellS (i := 0) I HM rfl rfl si_st rfl) (.tmp I rfl) (⟨y, rfl, heq, hcap, HM.pt 1 []⟩)
theorem qn4 (x : Stm) (gm : Nat) (o : Int) (w : World) (hok : x.sta.Ok) (hf : StFew x) (hsh : ShAt x) (hx : StRd w x) (hm : w.heap[gm]? = some (.cells #[vI x.cpus, vQ x.credit, .slice x.gA x.gs.length x.gc, .slice x.lA x.cl.length x.lc, .slice x.uA x.cu.length x.uc, .slice x.tA x.ts.length x.tc, .slice x.sA x.rs.length x.sc, .bool true] 56 (0, 0))) :
    Calls Tryz.prog 41 #[vP gm 0, vI o, .func (.func 42) #[] #[]] w (qcu w x.cpus o (q3 x.sta o.toNat : Int)) := by
 refine (JN3 Tryz.func41 27) ?_
 refine (JP∘Jp 2∘Jj∘JQ∘JB∘JP∘Jp 1∘Jy (v := .bool false) (h:=by exact Yl.qht rfl rfl rfl)∘Jp 2∘Jn∘Jf 7∘Jy (v := .bool true) (h:=by exact Yl.qo rfl rfl kr (fun _ h => h.qay hm rfl))∘Jp 3∘Jd6∘Jj∘JF∘JP∘Jp 2∘JI (h:=by exact fun HM => qk5 gm x.cpus x.credit x.gA x.gs.length x.gc x.lA x.cl.length x.lc x.uA x.cu.length x.uc x.tA x.ts.length x.tc x.sA x.rs.length x.sc o _ (HM.oldBlk hm))) fun w21 hbw => (Jp 2∘Jd4∘Jj) (Ju (fun hb18 => ?_) fun hb18 => ?_)
 ·
  intro a I HM
  have hd18 := of_decide_eq_false ((Bool.not_eq_true' _).mp hb18)
  exact Jb I HM ((JT∘JP∘Jp 2∘Jj∘JZ∘Jz2) fun HM => qhm hd18 HM.below)
 intro a I HM
 have hd18 := of_decide_eq_true ((Bool.not_eq_false' _).mp hb18)
 obtain ⟨c, hcc⟩ : ∃ c : Nat, o = (c : Int) := ⟨o.toNat, by omega⟩
 refine Jb I HM ((JF∘JS'∘JP∘Jp 3∘Jo (vI c) (by rw [hcc])) fun a I HM => ?_)
 refine fo I 3 rfl rfl ?_
 refine qci I (f := 42) (vs := [vP gm 0, vI c]) (fst := []) (caps := []) rfl rfl rfl kr rfl de (qj2 x gm c _ hok hf hsh (hx.old HM) (HM.oldBlk hm) om) ?_
 rintro _ w26 ⟨rfl, hbw⟩
 refine ⟨_, rfl, ?_⟩
 replace HM := HM.call hbw
 clear I; intro a I
 exact Jb I HM ((Jp 2∘Jj∘JZ∘Jz2) fun HM => qgj hd18 (by rw [hcc]; rfl) HM.below)
theorem qn5 (x : Stm) (gm : Nat) (o : Int) (w : World) (hok : x.sta.Ok) (hf : StFew x) (hsh : ShAt x) (hx : StRd w x) (hm : w.heap[gm]? = some (.cells #[vI x.cpus, vQ x.credit, .slice x.gA x.gs.length x.gc, .slice x.lA x.cl.length x.lc, .slice x.uA x.cu.length x.uc, .slice x.tA x.ts.length x.tc, .slice x.sA x.rs.length x.sc, .bool true] 56 (0, 0))) :
    Calls Tryz.prog 41 #[vP gm 0, vI o, .func (.func 43) #[] #[]] w (qcu w x.cpus o (loadS x.sta o.toNat)) := by
 refine (JN3 Tryz.func41 27) ?_
 refine (JP∘Jp 2∘Jj∘JQ∘JB∘JP∘Jp 1∘Jy (v := .bool false) (h:=by exact Yl.qht rfl rfl rfl)∘Jp 2∘Jn∘Jf 7∘Jy (v := .bool true) (h:=by exact Yl.qo rfl rfl kr (fun _ h => h.qay hm rfl))∘Jp 3∘Jd6∘Jj∘JF∘JP∘Jp 2∘JI (h:=by exact fun HM => qk5 gm x.cpus x.credit x.gA x.gs.length x.gc x.lA x.cl.length x.lc x.uA x.cu.length x.uc x.tA x.ts.length x.tc x.sA x.rs.length x.sc o _ (HM.oldBlk hm))) fun w21 hbw => (Jp 2∘Jd4∘Jj) (Ju (fun hb18 => ?_) fun hb18 => ?_)
 ·
  intro a I HM
  have hd18 := of_decide_eq_false ((Bool.not_eq_true' _).mp hb18)
  exact Jb I HM ((JT∘JP∘Jp 2∘Jj∘JZ∘Jz2) fun HM => qhm hd18 HM.below)
 intro a I HM
 have hd18 := of_decide_eq_true ((Bool.not_eq_false' _).mp hb18)
 obtain ⟨c, hcc⟩ : ∃ c : Nat, o = (c : Int) := ⟨o.toNat, by omega⟩
 refine Jb I HM ((JF∘JS'∘JP∘Jp 3∘Jo (vI c) (by rw [hcc])) fun a I HM => ?_)
 refine fo I 3 rfl rfl ?_
 refine qci I (f := 43) (vs := [vP gm 0, vI c]) (fst := []) (caps := []) rfl rfl rfl kr rfl de (qhj x gm c _ hok hf hsh (hx.old HM) (HM.oldBlk hm)) ?_
 rintro _ w26 ⟨rfl, hbw⟩
 refine ⟨_, rfl, ?_⟩
 replace HM := HM.call hbw
 clear I; intro a I
 exact Jb I HM ((Jp 2∘Jj∘JZ∘Jz2) fun HM => qgj hd18 (by rw [hcc]; rfl) HM.below)
theorem qka (x : Stm) (gm : Nat) (o : Int) (w : World) (hok : x.sta.Ok) (hf : StFew x) (hsh : ShAt x) (hx : StRd w x) (hm : w.heap[gm]? = some (.cells #[vI x.cpus, vQ x.credit, .slice x.gA x.gs.length x.gc, .slice x.lA x.cl.length x.lc, .slice x.uA x.cu.length x.uc, .slice x.tA x.ts.length x.tc, .slice x.sA x.rs.length x.sc, .bool true] 56 (0, 0))) :
    Calls Tryz.prog 15 #[vP gm 0, vI o] w (qcu w x.cpus o (q3 x.sta o.toNat : Int)) := by
 refine (JN2 Tryz.func15 11) ?_
 refine (JP∘Jp 2∘Jr∘Jp 2∘JL (h:=by exact fun HM => qn4 x gm o _ hok hf hsh (hx.old HM) (HM.oldBlk hm))) ?_
 rintro HM _ w8 ⟨⟨a, e, rfl, hae⟩, hbw⟩
 refine ⟨_, rfl, _, HM.call hbw, ?_⟩
 exact (Jx∘Jx∘Jp 2∘Jj∘JZ∘Jz2) fun HM => by exact ⟨⟨a, e, rfl, hae⟩, HM.below⟩
theorem qin (x : Stm) (gm : Nat) (o : Int) (w : World) (hok : x.sta.Ok) (hf : StFew x) (hsh : ShAt x) (hx : StRd w x) (hm : w.heap[gm]? = some (.cells #[vI x.cpus, vQ x.credit, .slice x.gA x.gs.length x.gc, .slice x.lA x.cl.length x.lc, .slice x.uA x.cu.length x.uc, .slice x.tA x.ts.length x.tc, .slice x.sA x.rs.length x.sc, .bool true] 56 (0, 0))) :
    Calls Tryz.prog 16 #[vP gm 0, vI o] w (qcu w x.cpus o (loadS x.sta o.toNat)) := by
 refine (JN2 Tryz.func16 11) ?_
 refine (JP∘Jp 2∘Jr∘Jp 2∘JL (h:=by exact fun HM => qn5 x gm o _ hok hf hsh (hx.old HM) (HM.oldBlk hm))) ?_
 rintro HM _ w8 ⟨⟨a, e, rfl, hae⟩, hbw⟩
 refine ⟨_, rfl, _, HM.call hbw, ?_⟩
 exact (Jx∘Jx∘Jp 2∘Jj∘JZ∘Jz2) fun HM => by exact ⟨⟨a, e, rfl, hae⟩, HM.below⟩
theorem qvu {cp : Int} {cr gc : Nat} {gA : Option Addr} {gs : List Gr} (hf : gs.length ≤ 1000000) : StFew (⟨cp, cr, gA, gc, gs, none, 0, [], none, 0, [], none, 0, [], none, 0, []⟩ : Stm) := ⟨hf, Nat.zero_le _, Nat.zero_le _, Nat.zero_le _, Nat.zero_le _, fun y hy => by cases hy⟩
theorem qwz {w : World} {cp : Int} {cr gc : Nat} {gA : Option Addr} {gs : List Gr} (hr : Rd w w.heap.size 2 gA gs.length (gs.flatMap grL)) : StRd w (⟨cp, cr, gA, gc, gs, none, 0, [], none, 0, [], none, 0, [], none, 0, []⟩ : Stm) := ⟨hr, Rd.nil, Rd.nil, Rd.nil, Rd.nil, fun y hy => by cases hy⟩
theorem qw0 {W w : World} {F : List Fact} {rz : List Sp} {cr gc cs g11 g14 : Nat} {gA As : Option Addr} {gs : List Gr} {z : List Rw} (HM : Mem W w F) (hr : Rd W W.heap.size 2 gA gs.length (gs.flatMap grL)) {q : Nat} (hq : z.length = q) (i j k n : Nat) (h1 : F[i]? = some (.row (.slice (some ⟨g11, 0, none⟩) rz.length rz.length) rz.length ((List.replicate rz.length (0 : Int)).map I64i) 3 1)) (h2 : F[j]? = some (.row (.slice (some ⟨g14, 0, none⟩) rz.length rz.length) rz.length ((List.replicate rz.length (0 : Int)).map I64i) 3 1)) (h3 : F[k]? = some (.row (.slice As q cs) q (z.map Rw.val) 63 1)) (h4 : F.drop n = rwF 83 z) : StRd w (⟨(rz.length : Int), cr, gA, gc, gs, some ⟨g11, 0, none⟩, rz.length, (List.replicate rz.length (0 : Int)), some ⟨g14, 0, none⟩, rz.length, (List.replicate rz.length (0 : Int)), none, 0, [], As, cs, z⟩ : Stm) :=
 ⟨HM.old hr, by show Rd w _ 1 _ (List.length _) _; rw [List.length_replicate]; exact HM.rd h1, by show Rd w _ 1 _ (List.length _) _; rw [List.length_replicate]; exact HM.rd h2, Rd.nil, by show Rd w _ 1 _ z.length _; rw [hq]; exact HM.rd h3, fun y hy => HM.rdMem (List.mem_of_mem_drop (h4 ▸ qpp hy))⟩
theorem qvv {rz : List Sp} {cr gc cs g11 g14 : Nat} {gA As : Option Addr} {gs : List Gr} {z : List Rw} (hr : List.replicate rz.length Sp.zero = rz) (hk : z.length = gs.length) (hz : ∀ q ∈ z, q.l = rz) : (⟨(rz.length : Int), cr, gA, gc, gs, some ⟨g11, 0, none⟩, rz.length, (List.replicate rz.length (0 : Int)), some ⟨g14, 0, none⟩, rz.length, (List.replicate rz.length (0 : Int)), none, 0, [], As, cs, z⟩ : Stm).sta = newS (rz.length : Int) cr gs := by
 have h1 : z.map Rw.l = List.replicate gs.length rz := by
  rw [List.eq_replicate_iff]
  refine ⟨by rw [List.length_map]; exact hk, fun b hb => ?_⟩
  obtain ⟨q, hq, rfl⟩ := List.mem_map.1 hb
  exact hz q hq
 unfold Stm.sta newS
 dsimp only
 rw [h1, Int.toNat_natCast, hr]
theorem qvw (cp : Int) (cr : Nat) (gA : Option Addr) (gc : Nat) (gs : List Gr) (w : World) (hok : (⟨cp, cr, gA, gc, gs, none, 0, [], none, 0, [], none, 0, [], none, 0, []⟩ : Stm).sta.Ok) (hf : gs.length ≤ 1000000) (hr : Rd w w.heap.size 2 gA gs.length (gs.flatMap grL)) :
    Calls Tryz.prog 7 #[.agg #[vI cp, vQ cr, .slice gA gs.length gc]] w (NewIs w (cfgOk (⟨cp, cr, gA, gc, gs, none, 0, [], none, 0, [], none, 0, [], none, 0, []⟩ : Stm).sta) (newS cp cr gs)) := by
 have hocr := hok.credit
 refine (JN1 Tryz.func7 34) ?_
 refine (JP∘JE) fun w1 g1 => (Jp 2∘Jj∘JQ∘JP∘Jy (v := .agg #[vI cp, vQ cr, .slice gA gs.length gc]) (h:=by exact Yl.loadS rfl rfl qbj rfl (fun _ h => qa (h.blk (i := 0) rfl)))∘JI (h:=by exact fun HM => qf2 (⟨cp, cr, gA, gc, gs, none, 0, [], none, 0, [], none, 0, [], none, 0, []⟩ : Stm) hok (qvu hf) _ (qwz (HM.old hr)))) fun w6 hbw => (Jp 1∘Jd2∘Jj) (Ju (fun hb7 => ?_) fun hb7 => ?_)
 ·
  exact (JT∘JP∘Jp 2∘Jj∘JZ∘Jz2) fun HM => qth (by simpa using hb7) HM.below
 intro a I HM
 obtain ⟨hcp1, hcp2, _, hgs⟩ := zf (x := (⟨cp, cr, gA, gc, gs, none, 0, [], none, 0, [], none, 0, [], none, 0, []⟩ : Stm)) (by simpa using hb7)
 replace hcp1 : 1 ≤ cp := hcp1; replace hcp2 : cp ≤ 64 := hcp2; replace hgs : gsOk gs = true := hgs
 have hgl := (qh hgs).2.1
 have hcfg : cfgOk (⟨cp, cr, gA, gc, gs, none, 0, [], none, 0, [], none, 0, [], none, 0, []⟩ : Stm).sta = true := by simpa using hb7
 obtain ⟨rz, hrz0⟩ : ∃ l : List Sp, List.replicate cp.toNat Sp.zero = l := ⟨_, rfl⟩
 revert HM; revert a; repeat (first | clear I | clear HM)
 intro a I HM
 obtain rfl : cp = (rz.length : Int) := by rw [← hrz0, List.length_replicate]; omega
 have hrz : List.replicate rz.length Sp.zero = rz := hrz0
 refine Jb I HM ((JF∘JS') fun a I HM => ?_)
 refine wp_seq ?_
 refine Jb I HM ((Vs .n [9]) fun wd3 => fun a I HM HS => ?_)
 refine qao (f := 0) (l := (bt 10 [])) (fun aS wS => ∃ (g11 : Nat) (g14 : Nat) (g4 : Nat), Fr aS 34 [] [(4, vP g4 0), (7, .bool false), (3, vI 0), (2, .pointer none), (1, vP g1 0), (0, .agg #[vI rz.length, vQ cr, .slice gA gs.length gc])] ∧ Mem w wS [.blk g4 #[vI rz.length, vQ cr, .slice gA gs.length gc, vS g11 rz.length rz.length, vS g14 rz.length rz.length, vN, vN] 45, .row (vS g14 rz.length rz.length) rz.length ((madeCells #[vI 0] (rz.length * 1)).toList) 3 1, .row (vS g11 rz.length rz.length) rz.length ((madeCells #[vI 0] (rz.length * 1)).toList) 3 1, .blk g1 #[vI rz.length, vQ cr, .slice gA gs.length gc] 33]) ?_ fun M3_0 => ?_
 ·
  clear I HM HS; rintro a wM ⟨g11, g14, g4, I, HM⟩
  refine qb kr ?_
  rw [qj8] at HM
  replace HM := HM.nil 63 1
  replace HM := HM.newTail 83 3
  replace HM : Mem w _ (.row (vN) 0 [] 63 1 :: .blk g4 #[vI rz.length, vQ cr, .slice gA gs.length gc, vS g11 rz.length rz.length, vS g14 rz.length rz.length, vN, vN] 45 :: .row (vS g14 rz.length rz.length) rz.length ((List.replicate rz.length (0 : Int)).map I64i) 3 1 :: .row (vS g11 rz.length rz.length) rz.length ((List.replicate rz.length (0 : Int)).map I64i) 3 1 :: .blk g1 #[vI rz.length, vQ cr, .slice gA gs.length gc] 33 :: rwF 83 []) := HM
  refine Jb I HM ((JQ∘JP∘Jg 2 O4∘Jl∘Jp 1∘Jj∘JB) fun a I HM => ?_)
  refine qi (fun mS aS wS => ∃ (k : Nat) (z : List Rw) (As : Option Addr) (cs : Nat), (k ≤ gs.length) ∧ (z.length = k) ∧ (∀ q ∈ z, q.l = rz) ∧ (k ≤ cs) ∧ mS = gs.length - k ∧ Fr aS 34 [] [(19, vI k), (18, vI gs.length), (4, vP g4 0), (7, .bool false), (3, vI 0), (2, .pointer none), (1, vP g1 0)] ∧ Mem w wS (.row (.slice As k cs) k (z.map Rw.val) 63 1 :: .blk g4 #[vI rz.length, vQ cr, .slice gA gs.length gc, vS g11 rz.length rz.length, vS g14 rz.length rz.length, vN, .slice As k cs] 45 :: .row (vS g14 rz.length rz.length) rz.length ((List.replicate rz.length (0 : Int)).map I64i) 3 1 :: .row (vS g11 rz.length rz.length) rz.length ((List.replicate rz.length (0 : Int)).map I64i) 3 1 :: .blk g1 #[vI rz.length, vQ cr, .slice gA gs.length gc] 33 :: rwF 83 z)) (m := gs.length - 0) ⟨0, [], none, 0, Nat.zero_le _, rfl, (fun q h => by cases h), Nat.le_refl _, rfl, I.sub kr, HM.pt 5 [0, 1, 2, 3, 4]⟩ ?_
  clear I HM; rintro mS a w_ ⟨k, z, As, cs, hk, hzl, hz, hcs, rfl, I, HM⟩
  refine Jb I HM ((JP∘Jp 1∘Jj∘JQ) (Ju (fun hb20 => ?_) fun hb20 => ?_))
  ·
   intro a I HM
   have hd20 := of_decide_eq_true hb20
   refine Jb I HM ((JT∘JS'∘JQ∘JB∘Vs (.f .n) [8]) fun wd6 => (Vf 0 6∘Vf 2 0∘Vc 1 O0∘Vc 3 O3) fun a I HM HS => ?_)
   refine s_on I 4 rfl ?_
   refine zm I HM (m := rz.length) rfl ei_sp rfl rfl om om rfl de ?_
   clear I HM; intro a w25 g25 I HM
   refine keepS (HM.pt 6 [2, 3, 4, 5]) (fun HS => ?_)
   refine s_on I 5 rfl (s_el I HM ei_rw [(0, vS g25 rz.length rz.length)] #[vS g25 rz.length rz.length] ?_)
   clear I HM; intro a w26 g26 I HM
   refine keepS (HM.pt 7 [3, 4, 5, 6]) (fun HS => ?_)
   refine s_on I 6 rfl (ze I HM (i := 2) rfl ei_rw rfl rfl rfl (news := ([(⟨some ⟨g25, 0, none⟩, rz.length, rz⟩ : Rw)].map Rw.val)) (HM.rdBlk (i := 0) (n := 1) (size := 1) rfl rfl) (qpq _) om om rfl de ?_)
   clear I HM; intro a w27 A27 c27 I HM hc27
   refine keepS (HM.pt 7 [3, 4, 5, 6]) (fun HS => ?_)
   refine Vb I HM HS ((Vf 7 6) fun a I HM HS => ?_)
   refine s_on I 8 rfl (s_es I HM 3 fun w6_8 HM => ?_)
   refine noS kr ?_
   refine qb kr ?_
   replace HM := HM.asRow (i := 1) (ys := rz.flatMap spL) rfl ((qq1 _).trans (by rw [hrz]))
   replace HM := HM.asRow (i := 2) (ys := (z ++ [(⟨some ⟨g25, 0, none⟩, rz.length, rz⟩ : Rw)]).map Rw.val) rfl (by rw [List.map_append])
   replace HM := HM.pt (fs' := (.row (vS g25 rz.length rz.length) rz.length (rz.flatMap spL) 83 3 :: .row (.slice A27 (k + 1) c27) (k + 1) ((z ++ [(⟨some ⟨g25, 0, none⟩, rz.length, rz⟩ : Rw)]).map Rw.val) 63 1 :: .blk g4 #[vI rz.length, vQ cr, .slice gA gs.length gc, vS g11 rz.length rz.length, vS g14 rz.length rz.length, vN, .slice A27 (k + 1) c27] 45 :: .row (vS g14 rz.length rz.length) rz.length ((List.replicate rz.length (0 : Int)).map I64i) 3 1 :: .row (vS g11 rz.length rz.length) rz.length ((List.replicate rz.length (0 : Int)).map I64i) 3 1 :: .blk g1 #[vI rz.length, vQ cr, .slice gA gs.length gc] 33 :: rwF 83 z)) 7 [1, 2, 3, 4, 5, 6]
   replace HM := Mem.toRw (fs := [.row (.slice A27 (k + 1) c27) (k + 1) ((z ++ [(⟨some ⟨g25, 0, none⟩, rz.length, rz⟩ : Rw)]).map Rw.val) 63 1, .blk g4 #[vI rz.length, vQ cr, .slice gA gs.length gc, vS g11 rz.length rz.length, vS g14 rz.length rz.length, vN, .slice A27 (k + 1) c27] 45, .row (vS g14 rz.length rz.length) rz.length ((List.replicate rz.length (0 : Int)).map I64i) 3 1, .row (vS g11 rz.length rz.length) rz.length ((List.replicate rz.length (0 : Int)).map I64i) 3 1, .blk g1 #[vI rz.length, vQ cr, .slice gA gs.length gc] 33]) HM
   replace HM : Mem w _ (.row (.slice A27 (k + 1) c27) (k + 1) ((z ++ [(⟨some ⟨g25, 0, none⟩, rz.length, rz⟩ : Rw)]).map Rw.val) 63 1 :: .blk g4 #[vI rz.length, vQ cr, .slice gA gs.length gc, vS g11 rz.length rz.length, vS g14 rz.length rz.length, vN, .slice A27 (k + 1) c27] 45 :: .row (vS g14 rz.length rz.length) rz.length ((List.replicate rz.length (0 : Int)).map I64i) 3 1 :: .row (vS g11 rz.length rz.length) rz.length ((List.replicate rz.length (0 : Int)).map I64i) 3 1 :: .blk g1 #[vI rz.length, vQ cr, .slice gA gs.length gc] 33 :: rwF 83 (z ++ [(⟨some ⟨g25, 0, none⟩, rz.length, rz⟩ : Rw)])) := HM
   refine Jb I HM ((JG∘JR∘JaK 1∘Jp 1∘Jd6∘Jq) fun a I HM => ?_)
   exact ⟨_, om, k + 1, (z ++ [(⟨some ⟨g25, 0, none⟩, rz.length, rz⟩ : Rw)]), A27, c27, by omega, by rw [List.length_append, hzl]; rfl, fun q h => (List.mem_append.1 h).elim (hz q) (fun h => by rw [List.mem_singleton] at h; subst h; rfl), hc27, rfl, I.sub kr, HM.pt 5 [0, 1, 2, 3, 4]⟩
  intro a I HM
  have hd20 := of_decide_eq_false hb20
  have hkg : z.length = gs.length := by omega
  refine Jb I HM ((JF∘JX∘JG∘JP∘Jy (v := .agg #[vI rz.length, vQ cr, .slice gA gs.length gc, vS g11 rz.length rz.length, vS g14 rz.length rz.length, vN, .slice As k cs]) (h:=by exact Yl.loadS rfl rfl si_st rfl (fun _ h => qa (h.blk (i := 1) rfl)))∘Jo (.agg ((⟨(rz.length : Int), cr, gA, gc, gs, some ⟨g11, 0, none⟩, rz.length, (List.replicate rz.length (0 : Int)), some ⟨g14, 0, none⟩, rz.length, (List.replicate rz.length (0 : Int)), none, 0, [], As, cs, z⟩ : Stm).cells)) (by unfold Stm.cells; rw [List.length_replicate, hzl]; try rfl)∘JL (h:=by exact fun HM => qhl (⟨(rz.length : Int), cr, gA, gc, gs, some ⟨g11, 0, none⟩, rz.length, (List.replicate rz.length (0 : Int)), some ⟨g14, 0, none⟩, rz.length, (List.replicate rz.length (0 : Int)), none, 0, [], As, cs, z⟩ : Stm) _ (qw0 HM hr hzl 3 2 0 5 rfl rfl rfl rfl) (⟨hf, by rw [List.length_replicate]; omega, by rw [List.length_replicate]; omega, Nat.zero_le _, by show z.length ≤ 1000000; omega, fun q hq => by rw [hz q hq]; omega⟩))) ?_)
  rintro HM _ w31 ⟨y, rfl, heq, hcap, hm⟩
  refine ⟨_, rfl, _, (Mem.alone HM hm), ?_⟩
  exact (Jy (v := .agg #[vI y.cpus, vQ y.credit, .slice y.gA y.gs.length y.gc, .slice y.lA y.cl.length y.lc, .slice y.uA y.cu.length y.uc, .slice y.tA y.ts.length y.tc, .slice y.sA y.rs.length y.sc, .bool true]) (h:=by exact Yl.build (vs := [(0, .agg y.cells), (1, .bool true)]) rfl kr kr)∘JE) fun w33 g33 => (Jp 2∘Jj∘JZ∘Jz2) fun HM => qqz (y := y) hcfg ((qf1 heq).trans (qvv hrz hkg hz)) (HM.pt 1 [0])
 refine qao (f := 2) (l := (bt 10 [7, 9])) (fun aS wS => ∃ (g11 : Nat) (g4 : Nat) (g14 : Nat), Fr aS 34 [] [(14, vS g14 rz.length rz.length), (4, vP g4 0), (11, vS g11 rz.length rz.length), (8, .agg #[vI rz.length, vQ cr, .slice gA gs.length gc]), (7, .bool false), (3, vI 0), (2, .pointer none), (1, vP g1 0), (0, .agg #[vI rz.length, vQ cr, .slice gA gs.length gc])] ∧ Mem w wS [.row (vS g14 rz.length rz.length) rz.length ((madeCells #[vI 0] (rz.length * 1)).toList) 3 1, .blk g4 #[vI 0, vQ 0, vN, vN, vN, vN, vN] 45, .row (vS g11 rz.length rz.length) rz.length ((madeCells #[vI 0] (rz.length * 1)).toList) 3 1, .blk g1 #[vI rz.length, vQ cr, .slice gA gs.length gc] 33]) ?_ fun M3_1 => ?_
 ·
  clear I HM HS; rintro a wM ⟨g11, g4, g14, I, HM⟩
  have HS := HM.pk (fs' := [.blk g1 #[vI rz.length, vQ cr, .slice gA gs.length gc] 33]) [3]
  refine Vb I HM HS ((Vy 7 (v := .agg #[vI rz.length, vQ cr, .slice gA gs.length gc, vS g11 rz.length rz.length, vS g14 rz.length rz.length, vN, vN]) (h:=by exact Yl.build (vs := [(0, .agg #[vI rz.length, vQ cr, .slice gA gs.length gc]), (1, vS g11 rz.length rz.length), (2, vS g14 rz.length rz.length)]) rfl kr kr)) fun a I HM HS => ?_)
  refine s_on I 9 rfl (e_sa I HM 1 rfl rfl rfl rfl rfl si_st rfl rfl (by simp [Value.oneCell']) fun w3_9 HM => ?_)
  refine noS kr ?_
  exact M3_0 _ _ ⟨g11, g14, g4, I.sub kr, HM.pk [1, 0, 2, 3]⟩
 refine qao (f := 3) (l := (bt 10 [7, 8, 9])) (fun aS wS => ∃ (g11 : Nat) (g14 : Nat), Fr aS 34 [] [(14, vS g14 rz.length rz.length), (11, vS g11 rz.length rz.length), (8, .agg #[vI rz.length, vQ cr, .slice gA gs.length gc]), (7, .bool false), (3, vI 0), (2, .pointer none), (1, vP g1 0), (0, .agg #[vI rz.length, vQ cr, .slice gA gs.length gc])] ∧ Mem w wS [.row (vS g14 rz.length rz.length) rz.length ((madeCells #[vI 0] (rz.length * 1)).toList) 3 1, .row (vS g11 rz.length rz.length) rz.length ((madeCells #[vI 0] (rz.length * 1)).toList) 3 1, .blk g1 #[vI rz.length, vQ cr, .slice gA gs.length gc] 33]) ?_ fun M3_2 => ?_
 ·
  clear I HM HS; rintro a wM ⟨g11, g14, I, HM⟩
  have HS := HM.pk (fs' := [.blk g1 #[vI rz.length, vQ cr, .slice gA gs.length gc] 33]) [2]
  refine Vb I HM HS ((Vy 7 (v := .agg #[vI rz.length, vQ cr, .slice gA gs.length gc, vS g11 rz.length rz.length, vS g14 rz.length rz.length, vN, vN]) (h:=by exact Yl.build (vs := [(0, .agg #[vI rz.length, vQ cr, .slice gA gs.length gc]), (1, vS g11 rz.length rz.length), (2, vS g14 rz.length rz.length)]) rfl kr kr)∘VA 8 (.f (.f .n)) #[vI 0, vQ 0, vN, vN, vN, vN, vN]) fun w4 g4 => fun a I HM HS => ?_)
  refine s_on I 9 rfl (e_sa I HM 0 rfl rfl rfl rfl rfl si_st rfl rfl (by simp [Value.oneCell']) fun w3_9 HM => ?_)
  refine noS kr ?_
  exact M3_0 _ _ ⟨g11, g14, g4, I.sub kr, HM.pk [0, 1, 2, 3]⟩
 refine qao (f := 3) (l := (bt 10 [6, 7, 9])) (fun aS wS => ∃ (g11 : Nat) (g4 : Nat), Fr aS 34 [] [(4, vP g4 0), (11, vS g11 rz.length rz.length), (13, vI rz.length), (8, .agg #[vI rz.length, vQ cr, .slice gA gs.length gc]), (7, .bool false), (3, vI 0), (2, .pointer none), (1, vP g1 0), (0, .agg #[vI rz.length, vQ cr, .slice gA gs.length gc])] ∧ Mem w wS [.blk g4 #[vI 0, vQ 0, vN, vN, vN, vN, vN] 45, .row (vS g11 rz.length rz.length) rz.length ((madeCells #[vI 0] (rz.length * 1)).toList) 3 1, .blk g1 #[vI rz.length, vQ cr, .slice gA gs.length gc] 33]) ?_ fun M3_3 => ?_
 ·
  clear I HM HS; rintro a wM ⟨g11, g4, I, HM⟩
  have HS := HM.pk (fs' := [.blk g1 #[vI rz.length, vQ cr, .slice gA gs.length gc] 33]) [2]
  refine s_on I 6 rfl ?_
  refine zm I HM (m := rz.length) rfl zd rfl rfl om om rfl de ?_
  clear I HM; intro a w14 g14 I HM
  refine keepS (HM.pk [3]) (fun HS => ?_)
  exact M3_1 _ _ ⟨g11, g4, g14, I.sub kr, HM.pk [0, 1, 2, 3]⟩
 refine qao (f := 3) (l := (bt 10 [3, 7, 9])) (fun aS wS => ∃ (g14 : Nat) (g4 : Nat), Fr aS 34 [] [(4, vP g4 0), (14, vS g14 rz.length rz.length), (10, vI rz.length), (8, .agg #[vI rz.length, vQ cr, .slice gA gs.length gc]), (7, .bool false), (3, vI 0), (2, .pointer none), (1, vP g1 0), (0, .agg #[vI rz.length, vQ cr, .slice gA gs.length gc])] ∧ Mem w wS [.blk g4 #[vI 0, vQ 0, vN, vN, vN, vN, vN] 45, .row (vS g14 rz.length rz.length) rz.length ((madeCells #[vI 0] (rz.length * 1)).toList) 3 1, .blk g1 #[vI rz.length, vQ cr, .slice gA gs.length gc] 33]) ?_ fun M3_4 => ?_
 ·
  clear I HM HS; rintro a wM ⟨g14, g4, I, HM⟩
  have HS := HM.pk (fs' := [.blk g1 #[vI rz.length, vQ cr, .slice gA gs.length gc] 33]) [2]
  refine s_on I 3 rfl ?_
  refine zm I HM (m := rz.length) rfl zd rfl rfl om om rfl de ?_
  clear I HM; intro a w11 g11 I HM
  refine keepS (HM.pk [3]) (fun HS => ?_)
  exact M3_1 _ _ ⟨g11, g4, g14, I.sub kr, HM.pk [2, 1, 0, 3]⟩
 refine Vb I HM HS ((Vf 1 0∘Vf 4 0∘Vy 0 (v := .agg #[vI rz.length, vQ cr, .slice gA gs.length gc]) (h:=by exact Yl.loadS rfl rfl qbj rfl (fun _ h => qa (h.blk (i := 0) rfl)))∘Vc 2 O0∘Vc 5 O0) fun a I HM HS => ?_)
 refine qu [3, 6, 8] kr rfl ?_
 refine all_cons ?_ ?_
 ·refine qk I (i := 3) rfl rfl ?_
  refine zm I HM (m := rz.length) rfl zd rfl rfl om om rfl de ?_
  clear I HM; intro a w11 g11 I HM
  refine keepS (HM.pk [1]) (fun HS => ?_)
  refine qu [6, 8] kr rfl ?_
  refine all_cons ?_ ?_
  ·refine qk I (i := 6) rfl rfl ?_
   refine zm I HM (m := rz.length) rfl zd rfl rfl om om rfl de ?_
   clear I HM; intro a w14 g14 I HM
   refine keepS (HM.pk [2]) (fun HS => ?_)
   exact M3_2 _ _ ⟨g11, g14, I.sub kr, HM.pk [0, 1, 2]⟩
  refine all_cons ?_ all_nil
  refine qk I (i := 8) rfl rfl ?_
  refine s_ea I HM #[vI 0, vQ 0, vN, vN, vN, vN, vN] ?_
  clear I HM; intro a w4 g4 I HM
  refine keepS (HM.pk [2]) (fun HS => ?_)
  exact M3_3 _ _ ⟨g11, g4, I.sub kr, HM.pk [0, 1, 2]⟩
 refine all_cons ?_ ?_
 ·refine qk I (i := 6) rfl rfl ?_
  refine zm I HM (m := rz.length) rfl zd rfl rfl om om rfl de ?_
  clear I HM; intro a w14 g14 I HM
  refine keepS (HM.pk [1]) (fun HS => ?_)
  refine qu [3, 8] kr rfl ?_
  refine all_cons ?_ ?_
  ·refine qk I (i := 3) rfl rfl ?_
   refine zm I HM (m := rz.length) rfl zd rfl rfl om om rfl de ?_
   clear I HM; intro a w11 g11 I HM
   refine keepS (HM.pk [2]) (fun HS => ?_)
   exact M3_2 _ _ ⟨g11, g14, I.sub kr, HM.pk [1, 0, 2]⟩
  refine all_cons ?_ all_nil
  refine qk I (i := 8) rfl rfl ?_
  refine s_ea I HM #[vI 0, vQ 0, vN, vN, vN, vN, vN] ?_
  clear I HM; intro a w4 g4 I HM
  refine keepS (HM.pk [2]) (fun HS => ?_)
  exact M3_4 _ _ ⟨g14, g4, I.sub kr, HM.pk [0, 1, 2]⟩
 refine all_cons ?_ all_nil
 refine qk I (i := 8) rfl rfl ?_
 refine s_ea I HM #[vI 0, vQ 0, vN, vN, vN, vN, vN] ?_
 clear I HM; intro a w4 g4 I HM
 refine keepS (HM.pk [1]) (fun HS => ?_)
 refine qu [3, 6] kr rfl ?_
 refine all_cons ?_ ?_
 ·refine qk I (i := 3) rfl rfl ?_
  refine zm I HM (m := rz.length) rfl zd rfl rfl om om rfl de ?_
  clear I HM; intro a w11 g11 I HM
  refine keepS (HM.pk [2]) (fun HS => ?_)
  exact M3_3 _ _ ⟨g11, g4, I.sub kr, HM.pk [1, 0, 2]⟩
 refine all_cons ?_ all_nil
 refine qk I (i := 6) rfl rfl ?_
 refine zm I HM (m := rz.length) rfl zd rfl rfl om om rfl de ?_
 clear I HM; intro a w14 g14 I HM
 refine keepS (HM.pk [2]) (fun HS => ?_)
 exact M3_4 _ _ ⟨g14, g4, I.sub kr, HM.pk [1, 0, 2]⟩
theorem qvx (A : Option Addr) (c : Nat) (l : List Gr) (D : Option Addr) (c2 : Nat) (m : List Gr) (w : World) (hr : Rd w w.heap.size 2 A l.length (l.flatMap grL)) (hr2 : Rd w w.heap.size 2 D m.length (m.flatMap grL)) (hn : l.length ≤ 1000000) (hn2 : m.length ≤ 1000000) :
    Calls Tryz.prog 132 #[.slice A l.length c, .slice D m.length c2] w (Is w (.bool (decide (l = m)))) := by
 refine (JN2 Tryz.func132 26) ?_
 refine (JP∘Jp 1∘Jj∘JQ∘JP∘Jp 1∘Jl∘Jp 1∘Jl∘Jp 1∘Jd4∘Jj) (Ju (fun hb10 => ?_) fun hb10 => ?_)
 ·
  intro a I HM
  have hd10 := bne_iff_ne.1 hb10
  exact Jb I HM ((JT∘JP∘Jp 1∘Jj∘JZ∘Jz1) fun HM => is_no (fun e => by rw [e] at hd10; exact hd10 rfl) HM.below)
 intro a I HM
 have hd10 := bne_eq_false_iff_eq.1 hb10
 have hlm : l.length = m.length := by omega
 refine Jb I HM ((JF∘JS'∘JQ∘JP∘Jp 1∘Jj∘JB) fun a I HM => ?_)
 refine qi (fun mS aS wS => ∃ (k : Nat), (k ≤ l.length) ∧ (∀ i, i < k → l.getD i Gr.zero = m.getD i Gr.zero) ∧ mS = l.length - k ∧ Fr aS 26 [] [(5, vI k), (10, .bool false), (4, .bool false), (0, .slice A l.length c), (1, .slice D m.length c2)] ∧ Mem w wS []) (m := l.length - 0) ⟨0, Nat.zero_le _, qd8, rfl, I.sub kr, HM.pk []⟩ ?_
 clear I HM; rintro mS a w_ ⟨k, hk, hu, rfl, I, HM⟩
 refine Jb I HM ((JQ∘JP∘Jp 2∘Jl∘Jp 1∘Jd3∘Jj) (Ju (fun hb14 => ?_) fun hb14 => ?_))
 ·
  intro a I HM
  have hd14 := of_decide_eq_true hb14
  have hk1 : k < l.length := by omega
  have hk2 : k < m.length := by omega
  revert HM; revert a; repeat (first | clear I | clear HM)
  intro a I HM
  obtain ⟨gA, oA, rfl, _⟩ := hr.qt (Nat.lt_of_le_of_lt (Nat.zero_le _) (show k < l.length from hk1)) de
  revert HM; revert a; repeat (first | clear I | clear HM)
  intro a I HM
  obtain ⟨gD, oD, rfl, _⟩ := hr2.qt (Nat.lt_of_le_of_lt (Nat.zero_le _) (show k < m.length from hk2)) de
  refine Jb I HM ((JT∘JS'∘JQ∘JB) fun a I HM => ?_)
  refine wp_seq ?_
  refine Jb I HM ((Vs .n []) fun wd6 => (Vp [0, 1, 4, 5]∘Vy 2 (h:=by exact Yl.ix gA oA k 2 rfl rfl rfl)∘Vy 3 (v := .agg ((l.getD k Gr.zero).cells)) (h:=by exact Yl.loadS rfl rfl si_gr rfl (fun _ h => (h.old hr).q4 za ((getD_at Gr.zero hk1))))∘Vy 6 (h:=by exact Yl.ix gD oD k 2 rfl rfl rfl)∘Vy 7 (v := .agg ((m.getD k Gr.zero).cells)) (h:=by exact Yl.loadS rfl rfl si_gr rfl (fun _ h => (h.old hr2).q4 za ((getD_at Gr.zero hk2))))∘Vy 8 (v := .bool (!(decide ((l.getD k Gr.zero) = (m.getD k Gr.zero))))) (h:=by exact Yl.qm3 rfl rfl rfl (qly (l.getD k Gr.zero) (m.getD k Gr.zero)))∘Vd∘Jd6) (Ji' (fun hd25 => ?_) fun hd25 => ?_))
  ·
   exact (JT∘JP∘Jp 1∘Jj∘JZ∘Jz1) fun HM => is_no (fun e => hd25 (by rw [e])) HM.below
  refine (JF∘JS'∘JR∘Jp 1∘JaK 1∘Jp 1∘Jd2∘Jq) fun a I HM => ?_
  exact ⟨_, om, k + 1, by omega, qd9 hu (hd25), rfl, I.sub kr, HM.pk []⟩
 intro a I HM
 have hd14 := of_decide_eq_false hb14
 exact Jb I HM ((JF∘JX∘JG∘JP∘Jp 1∘Jj∘JZ∘Jz1) fun HM => qd5 (qd7 Gr.zero hlm (fun i hi => hu i om)) HM.below)
theorem qmp (A : Option Addr) (c : Nat) (l : List Int) (D : Option Addr) (c2 : Nat) (m : List Int) (w : World) (hr : Rd w w.heap.size 1 A l.length (l.map I64i)) (hr2 : Rd w w.heap.size 1 D m.length (m.map I64i)) (hn : l.length ≤ 1000000) (hn2 : m.length ≤ 1000000) :
    Calls Tryz.prog 59 #[.slice A l.length c, .slice D m.length c2] w (Is w (.bool (decide (l = m)))) := by
 refine (JN2 Tryz.func59 26) ?_
 refine (JP∘Jp 1∘Jj∘JQ∘JP∘Jp 1∘Jl∘Jp 1∘Jl∘Jp 1∘Jd4∘Jj) (Ju (fun hb10 => ?_) fun hb10 => ?_)
 ·
  intro a I HM
  have hd10 := bne_iff_ne.1 hb10
  exact Jb I HM ((JT∘JP∘Jp 1∘Jj∘JZ∘Jz1) fun HM => is_no (fun e => by rw [e] at hd10; exact hd10 rfl) HM.below)
 intro a I HM
 have hd10 := bne_eq_false_iff_eq.1 hb10
 have hlm : l.length = m.length := by omega
 refine Jb I HM ((JF∘JS'∘JQ∘JP∘Jp 1∘Jj∘JB) fun a I HM => ?_)
 refine qi (fun mS aS wS => ∃ (k : Nat), (k ≤ l.length) ∧ (∀ i, i < k → l.getD i 0 = m.getD i 0) ∧ mS = l.length - k ∧ Fr aS 26 [] [(5, vI k), (10, .bool false), (4, .bool false), (0, .slice A l.length c), (1, .slice D m.length c2)] ∧ Mem w wS []) (m := l.length - 0) ⟨0, Nat.zero_le _, qd8, rfl, I.sub kr, HM.pk []⟩ ?_
 clear I HM; rintro mS a w_ ⟨k, hk, hu, rfl, I, HM⟩
 refine Jb I HM ((JQ∘JP∘Jp 2∘Jl∘Jp 1∘Jd3∘Jj) (Ju (fun hb14 => ?_) fun hb14 => ?_))
 ·
  intro a I HM
  have hd14 := of_decide_eq_true hb14
  have hk1 : k < l.length := by omega
  have hk2 : k < m.length := by omega
  revert HM; revert a; repeat (first | clear I | clear HM)
  intro a I HM
  obtain ⟨gA, oA, rfl, _⟩ := hr.qt (Nat.lt_of_le_of_lt (Nat.zero_le _) (show k < l.length from hk1)) de
  revert HM; revert a; repeat (first | clear I | clear HM)
  intro a I HM
  obtain ⟨gD, oD, rfl, _⟩ := hr2.qt (Nat.lt_of_le_of_lt (Nat.zero_le _) (show k < m.length from hk2)) de
  refine Jb I HM ((JT∘JS'∘JQ∘JB) fun a I HM => ?_)
  refine wp_seq ?_
  refine Jb I HM ((Vs .n []) fun wd6 => (Vp [0, 1, 4, 5]∘Vy 2 (h:=by exact Yl.ix gA oA k 1 rfl rfl rfl)∘Vy 3 (h:=by exact Yl.o1 hr k 0 hk1 rfl rfl)∘Vy 6 (h:=by exact Yl.ix gD oD k 1 rfl rfl rfl)∘Vy 7 (h:=by exact Yl.o1 hr2 k 0 hk2 rfl rfl)∘Vp [8]∘Vd∘Jd6) (Jh (fun hd25 => ?_) fun hd25 => ?_))
  ·
   exact (JT∘JP∘Jp 1∘Jj∘JZ∘Jz1) fun HM => is_no (fun e => hd25 (by rw [e])) HM.below
  refine (JF∘JS'∘JR∘Jp 1∘JaK 1∘Jp 1∘Jd2∘Jq) fun a I HM => ?_
  exact ⟨_, om, k + 1, by omega, qd9 hu (hd25), rfl, I.sub kr, HM.pk []⟩
 intro a I HM
 have hd14 := of_decide_eq_false hb14
 exact Jb I HM ((JF∘JX∘JG∘JP∘Jp 1∘Jj∘JZ∘Jz1) fun HM => qd5 (qd7 0 hlm (fun i hi => hu i om)) HM.below)
theorem qvy (A : Option Addr) (c : Nat) (l : List Tk) (D : Option Addr) (c2 : Nat) (m : List Tk) (w : World) (hr : Rd w w.heap.size 8 A l.length (l.flatMap tkL)) (hr2 : Rd w w.heap.size 8 D m.length (m.flatMap tkL)) (hn : l.length ≤ 1000000) (hn2 : m.length ≤ 1000000) :
    Calls Tryz.prog 111 #[.slice A l.length c, .slice D m.length c2] w (Is w (.bool (decide (l = m)))) := by
 refine (JN2 Tryz.func111 26) ?_
 refine (JP∘Jp 1∘Jj∘JQ∘JP∘Jp 1∘Jl∘Jp 1∘Jl∘Jp 1∘Jd4∘Jj) (Ju (fun hb10 => ?_) fun hb10 => ?_)
 ·
  intro a I HM
  have hd10 := bne_iff_ne.1 hb10
  exact Jb I HM ((JT∘JP∘Jp 1∘Jj∘JZ∘Jz1) fun HM => is_no (fun e => by rw [e] at hd10; exact hd10 rfl) HM.below)
 intro a I HM
 have hd10 := bne_eq_false_iff_eq.1 hb10
 have hlm : l.length = m.length := by omega
 refine Jb I HM ((JF∘JS'∘JQ∘JP∘Jp 1∘Jj∘JB) fun a I HM => ?_)
 refine qi (fun mS aS wS => ∃ (k : Nat), (k ≤ l.length) ∧ (∀ i, i < k → l.getD i Tk.zero = m.getD i Tk.zero) ∧ mS = l.length - k ∧ Fr aS 26 [] [(5, vI k), (10, .bool false), (4, .bool false), (0, .slice A l.length c), (1, .slice D m.length c2)] ∧ Mem w wS []) (m := l.length - 0) ⟨0, Nat.zero_le _, qd8, rfl, I.sub kr, HM.pk []⟩ ?_
 clear I HM; rintro mS a w_ ⟨k, hk, hu, rfl, I, HM⟩
 refine Jb I HM ((JQ∘JP∘Jp 2∘Jl∘Jp 1∘Jd3∘Jj) (Ju (fun hb14 => ?_) fun hb14 => ?_))
 ·
  intro a I HM
  have hd14 := of_decide_eq_true hb14
  have hk1 : k < l.length := by omega
  have hk2 : k < m.length := by omega
  revert HM; revert a; repeat (first | clear I | clear HM)
  intro a I HM
  obtain ⟨gA, oA, rfl, _⟩ := hr.qt (Nat.lt_of_le_of_lt (Nat.zero_le _) (show k < l.length from hk1)) de
  revert HM; revert a; repeat (first | clear I | clear HM)
  intro a I HM
  obtain ⟨gD, oD, rfl, _⟩ := hr2.qt (Nat.lt_of_le_of_lt (Nat.zero_le _) (show k < m.length from hk2)) de
  refine Jb I HM ((JT∘JS'∘JQ∘JB) fun a I HM => ?_)
  refine wp_seq ?_
  refine Jb I HM ((Vs .n []) fun wd6 => (Vp [0, 1, 4, 5]∘Vy 2 (h:=by exact Yl.ix gA oA k 8 rfl rfl rfl)∘Vy 3 (v := .agg ((l.getD k Tk.zero).cells)) (h:=by exact Yl.loadS rfl rfl si_tk rfl (fun _ h => (h.old hr).q4 qd ((getD_at Tk.zero hk1))))∘Vy 6 (h:=by exact Yl.ix gD oD k 8 rfl rfl rfl)∘Vy 7 (v := .agg ((m.getD k Tk.zero).cells)) (h:=by exact Yl.loadS rfl rfl si_tk rfl (fun _ h => (h.old hr2).q4 qd ((getD_at Tk.zero hk2))))∘Vy 8 (v := .bool (!(decide ((l.getD k Tk.zero) = (m.getD k Tk.zero))))) (h:=by exact Yl.qm3 rfl rfl rfl (qsr (l.getD k Tk.zero) (m.getD k Tk.zero)))∘Vd∘Jd6) (Ji' (fun hd25 => ?_) fun hd25 => ?_))
  ·
   exact (JT∘JP∘Jp 1∘Jj∘JZ∘Jz1) fun HM => is_no (fun e => hd25 (by rw [e])) HM.below
  refine (JF∘JS'∘JR∘Jp 1∘JaK 1∘Jp 1∘Jd2∘Jq) fun a I HM => ?_
  exact ⟨_, om, k + 1, by omega, qd9 hu (hd25), rfl, I.sub kr, HM.pk []⟩
 intro a I HM
 have hd14 := of_decide_eq_false hb14
 exact Jb I HM ((JF∘JX∘JG∘JP∘Jp 1∘Jj∘JZ∘Jz1) fun HM => qd5 (qd7 Tk.zero hlm (fun i hi => hu i om)) HM.below)
theorem qvz (A : Option Addr) (c : Nat) (l : List Sp) (D : Option Addr) (c2 : Nat) (m : List Sp) (w : World) (hr : Rd w w.heap.size 3 A l.length (l.flatMap spL)) (hr2 : Rd w w.heap.size 3 D m.length (m.flatMap spL)) (hn : l.length ≤ 1000000) (hn2 : m.length ≤ 1000000) :
    Calls Tryz.prog 112 #[.slice A l.length c, .slice D m.length c2] w (Is w (.bool (decide (l = m)))) := by
 refine (JN2 Tryz.func112 26) ?_
 refine (JP∘Jp 1∘Jj∘JQ∘JP∘Jp 1∘Jl∘Jp 1∘Jl∘Jp 1∘Jd4∘Jj) (Ju (fun hb10 => ?_) fun hb10 => ?_)
 ·
  intro a I HM
  have hd10 := bne_iff_ne.1 hb10
  exact Jb I HM ((JT∘JP∘Jp 1∘Jj∘JZ∘Jz1) fun HM => is_no (fun e => by rw [e] at hd10; exact hd10 rfl) HM.below)
 intro a I HM
 have hd10 := bne_eq_false_iff_eq.1 hb10
 have hlm : l.length = m.length := by omega
 refine Jb I HM ((JF∘JS'∘JQ∘JP∘Jp 1∘Jj∘JB) fun a I HM => ?_)
 refine qi (fun mS aS wS => ∃ (k : Nat), (k ≤ l.length) ∧ (∀ i, i < k → l.getD i Sp.zero = m.getD i Sp.zero) ∧ mS = l.length - k ∧ Fr aS 26 [] [(5, vI k), (10, .bool false), (4, .bool false), (0, .slice A l.length c), (1, .slice D m.length c2)] ∧ Mem w wS []) (m := l.length - 0) ⟨0, Nat.zero_le _, qd8, rfl, I.sub kr, HM.pk []⟩ ?_
 clear I HM; rintro mS a w_ ⟨k, hk, hu, rfl, I, HM⟩
 refine Jb I HM ((JQ∘JP∘Jp 2∘Jl∘Jp 1∘Jd3∘Jj) (Ju (fun hb14 => ?_) fun hb14 => ?_))
 ·
  intro a I HM
  have hd14 := of_decide_eq_true hb14
  have hk1 : k < l.length := by omega
  have hk2 : k < m.length := by omega
  revert HM; revert a; repeat (first | clear I | clear HM)
  intro a I HM
  obtain ⟨gA, oA, rfl, _⟩ := hr.qt (Nat.lt_of_le_of_lt (Nat.zero_le _) (show k < l.length from hk1)) de
  revert HM; revert a; repeat (first | clear I | clear HM)
  intro a I HM
  obtain ⟨gD, oD, rfl, _⟩ := hr2.qt (Nat.lt_of_le_of_lt (Nat.zero_le _) (show k < m.length from hk2)) de
  refine Jb I HM ((JT∘JS'∘JQ∘JB) fun a I HM => ?_)
  refine wp_seq ?_
  refine Jb I HM ((Vs .n []) fun wd6 => (Vp [0, 1, 4, 5]∘Vy 2 (h:=by exact Yl.ix gA oA k 3 rfl rfl rfl)∘Vy 3 (v := .agg ((l.getD k Sp.zero).cells)) (h:=by exact Yl.loadS rfl rfl si_sp rfl (fun _ h => (h.old hr).q4 qax ((getD_at Sp.zero hk1))))∘Vy 6 (h:=by exact Yl.ix gD oD k 3 rfl rfl rfl)∘Vy 7 (v := .agg ((m.getD k Sp.zero).cells)) (h:=by exact Yl.loadS rfl rfl si_sp rfl (fun _ h => (h.old hr2).q4 qax ((getD_at Sp.zero hk2))))∘Vy 8 (v := .bool (!(decide ((l.getD k Sp.zero) = (m.getD k Sp.zero))))) (h:=by exact Yl.qm3 rfl rfl rfl (qss (l.getD k Sp.zero) (m.getD k Sp.zero)))∘Vd∘Jd6) (Ji' (fun hd25 => ?_) fun hd25 => ?_))
  ·
   exact (JT∘JP∘Jp 1∘Jj∘JZ∘Jz1) fun HM => is_no (fun e => hd25 (by rw [e])) HM.below
  refine (JF∘JS'∘JR∘Jp 1∘JaK 1∘Jp 1∘Jd2∘Jq) fun a I HM => ?_
  exact ⟨_, om, k + 1, by omega, qd9 hu (hd25), rfl, I.sub kr, HM.pk []⟩
 intro a I HM
 have hd14 := of_decide_eq_false hb14
 exact Jb I HM ((JF∘JX∘JG∘JP∘Jp 1∘Jj∘JZ∘Jz1) fun HM => qd5 (qd7 Sp.zero hlm (fun i hi => hu i om)) HM.below)
theorem qle (A : Option Addr) (c : Nat) (l : List Gr) (D : Option Addr) (c2 : Nat) (m : List Gr) (w : World) (hr : Rd w w.heap.size 2 A l.length (l.flatMap grL)) (hr2 : Rd w w.heap.size 2 D m.length (m.flatMap grL)) (hn : l.length ≤ 1000000) (hn2 : m.length ≤ 1000000) :
    Calls Tryz.prog 110 #[.slice A l.length c, .slice D m.length c2] w (Is w (.bool (decide (l = m)))) := by
 refine (JN2 Tryz.func110 8) ?_
 refine (JP∘Jp 1∘Jr∘Jp 2∘JL (h:=by exact fun HM => qvx A c l D c2 m _ (HM.old hr) (HM.old hr2) hn hn2)) ?_
 rintro HM _ w7 ⟨rfl, hbw⟩
 refine ⟨_, rfl, _, HM.call hbw, ?_⟩
 exact (Jp 1∘Jd3∘Jj∘JZ) JY1
theorem qn6 (A : Option Addr) (c : Nat) (l : List Tk) (D : Option Addr) (c2 : Nat) (m : List Tk) (w : World) (hr : Rd w w.heap.size 8 A l.length (l.flatMap tkL)) (hr2 : Rd w w.heap.size 8 D m.length (m.flatMap tkL)) (hn : l.length ≤ 1000000) (hn2 : m.length ≤ 1000000) :
    Calls Tryz.prog 60 #[.slice A l.length c, .slice D m.length c2] w (Is w (.bool (decide (l = m)))) := by
 refine (JN2 Tryz.func60 8) ?_
 refine (JP∘Jp 1∘Jr∘Jp 2∘JL (h:=by exact fun HM => qvy A c l D c2 m _ (HM.old hr) (HM.old hr2) hn hn2)) ?_
 rintro HM _ w7 ⟨rfl, hbw⟩
 refine ⟨_, rfl, _, HM.call hbw, ?_⟩
 exact (Jp 1∘Jd3∘Jj∘JZ) JY1
theorem qn7 (A : Option Addr) (c : Nat) (l : List Sp) (D : Option Addr) (c2 : Nat) (m : List Sp) (w : World) (hr : Rd w w.heap.size 3 A l.length (l.flatMap spL)) (hr2 : Rd w w.heap.size 3 D m.length (m.flatMap spL)) (hn : l.length ≤ 1000000) (hn2 : m.length ≤ 1000000) :
    Calls Tryz.prog 61 #[.slice A l.length c, .slice D m.length c2] w (Is w (.bool (decide (l = m)))) := by
 refine (JN2 Tryz.func61 8) ?_
 refine (JP∘Jp 1∘Jr∘Jp 2∘JL (h:=by exact fun HM => qvz A c l D c2 m _ (HM.old hr) (HM.old hr2) hn hn2)) ?_
 rintro HM _ w7 ⟨rfl, hbw⟩
 refine ⟨_, rfl, _, HM.call hbw, ?_⟩
 exact (Jp 1∘Jd3∘Jj∘JZ) JY1
theorem qlf (s z : Stm) (w : World) (hx : StRd w s) (hz : StRd w z) (hf : StFew s) (hg : StFew z) :
    Calls Tryz.prog 58 #[.agg #[vI s.cpus, vQ (s.credit : Int), .slice s.gA s.gs.length s.gc], .agg #[vI z.cpus, vQ (z.credit : Int), .slice z.gA z.gs.length z.gc]] w (Is w (.bool (decide (CfgEq s z)))) := by
 refine (JN2 Tryz.func58 24) ?_
 refine (JP∘JE) fun w2 g2 => (JE) fun w3 g3 => (Jp 1∘Jr∘Jg 0 O1∘Jg 0 O0∘Jp 2) (Je (fun hd10 => ?_) fun hd10 => ?_)
 ·
  refine (Jg 1 O1∘Jg 1 O0∘Jp 3) (Je (fun hd17 => ?_) fun hd17 => ?_)
  ·
   refine (Jg 2 O1∘Jg 2 O0∘JL (h:=by exact fun HM => qle s.gA s.gc s.gs z.gA z.gc z.gs _ (HM.old hx.g) (HM.old hz.g) hf.g hg.g)) ?_
   rintro HM _ w22 ⟨rfl, hbw⟩
   refine ⟨_, rfl, _, HM.call hbw, ?_⟩
   exact (Jp 2∘Jd6∘Jj∘JZ∘Jz1) fun HM => by exact qcl (p := CfgEq s z) ⟨fun e => ⟨hd10, by omega, e⟩, fun e => e.2.2⟩ HM.below
  exact (Jp 7∘Jd6∘Jj∘JZ∘Jz1) fun HM => is_no (p := CfgEq s z) (fun e => hd17 (by rw [e.2.1])) HM.below
 exact (Jv 14 [(4, .bool false)]∘Jd4∘Jj∘JZ∘Jz1) fun HM => is_no (p := CfgEq s z) (fun e => hd10 e.1) HM.below
theorem qn8 (s z : Stm) (w : World) (hx : StRd w s) (hz : StRd w z) (hf : StFew s) (hg : StFew z) :
    Calls Tryz.prog 24 #[.agg s.cells, .agg z.cells] w (Is w (.bool (decide (StaEq s z)))) := by
 have hfs_ := hf.s
 refine (JN2 Tryz.func24 64) ?_
 refine (JP∘JE) fun w2 g2 => (JE) fun w3 g3 => (Jp 1∘Jj∘JQ∘JP∘Jf 0∘Jy (v := .agg #[vI s.cpus, vQ s.credit, .slice s.gA s.gs.length s.gc]) (h:=by exact Yl.loadS rfl rfl qbj rfl (fun _ h => h.sub (i := 1) rfl 0 rfl))∘Jf 0∘Jy (v := .agg #[vI z.cpus, vQ z.credit, .slice z.gA z.gs.length z.gc]) (h:=by exact Yl.loadS rfl rfl qbj rfl (fun _ h => h.sub (i := 0) rfl 0 rfl))∘JI (h:=by exact fun HM => qlf s z _ (hx.old HM) (hz.old HM) hf hg)) fun w10 hbw => (Jp 2) (Ji' (fun hd12 => ?_) fun hd12 => ?_)
 ·
  exact (Jv 32 [(44, .bool true)]∘Jd6∘Jj∘JT∘JP∘Jp 1∘Jj∘JZ∘Jz1) fun HM => is_no (p := StaEq s z) (fun e => hd12 e.1) HM.below
 refine (Jg 3 O1∘Jg 3 O0∘JL (h:=by exact fun HM => qmp s.lA s.lc s.cl z.lA z.lc z.cl _ (HM.old hx.l) (HM.old hz.l) hf.l hg.l)) ?_
 rintro HM _ w17 ⟨rfl, hbw⟩
 refine ⟨_, rfl, _, HM.call hbw, ?_⟩
 refine (Jp 3) (Ji' (fun hd20 => ?_) fun hd20 => ?_)
 ·
  exact (Jv 24 [(44, .bool true)]∘Jd6∘Jj∘JT∘JP∘Jp 1∘Jj∘JZ∘Jz1) fun HM => is_no (p := StaEq s z) (fun e => hd20 e.2.1) HM.below
 refine (Jg 4 O1∘Jg 4 O0∘JL (h:=by exact fun HM => qmp s.uA s.uc s.cu z.uA z.uc z.cu _ (HM.old hx.u) (HM.old hz.u) hf.u hg.u)) ?_
 rintro HM _ w25 ⟨rfl, hbw⟩
 refine ⟨_, rfl, _, HM.call hbw, ?_⟩
 refine (Jp 3) (Ji' (fun hd28 => ?_) fun hd28 => ?_)
 ·
  exact (Jv 16 [(44, .bool true)]∘Jd6∘Jj∘JT∘JP∘Jp 1∘Jj∘JZ∘Jz1) fun HM => is_no (p := StaEq s z) (fun e => hd28 e.2.2.1) HM.below
 refine (Jg 5 O1∘Jg 5 O0∘JL (h:=by exact fun HM => qn6 s.tA s.tc s.ts z.tA z.tc z.ts _ (HM.old hx.t) (HM.old hz.t) hf.t hg.t)) ?_
 rintro HM _ w33 ⟨rfl, hbw⟩
 refine ⟨_, rfl, _, HM.call hbw, ?_⟩
 refine (Jp 3) (Ji' (fun hd36 => ?_) fun hd36 => ?_)
 ·
  exact (Jv 8 [(44, .bool true)]∘Jd6∘Jj∘JT∘JP∘Jp 1∘Jj∘JZ∘Jz1) fun HM => is_no (p := StaEq s z) (fun e => hd36 e.2.2.2.1) HM.below
 refine (Jg 6 O1∘Jl∘Jg 6 O0∘Jl∘Jp 2∘Jd6∘Jj) (Ju (fun hb44 => ?_) fun hb44 => ?_)
 ·
  intro a I HM
  have hd44 := bne_iff_ne.1 hb44
  exact Jb I HM ((JT∘JP∘Jp 1∘Jj∘JZ∘Jz1) fun HM => is_no (p := StaEq s z) (fun e => by have := qg5 e.2.2.2.2; omega) HM.below)
 intro a I HM
 have hd44 := bne_eq_false_iff_eq.1 hb44
 have hlm : s.rs.length = z.rs.length := by omega
 refine Jb I HM ((JF∘JS'∘JQ∘JP∘Jp 1∘Jj∘JB) fun a I HM => ?_)
 refine qi (fun mS aS wS => ∃ (k : Nat), (k ≤ s.rs.length) ∧ (∀ i, i < k → (s.rs.getD i Rw.zero).l = (z.rs.getD i Rw.zero).l) ∧ mS = s.rs.length - k ∧ Fr aS 64 [] [(5, vI k), (44, .bool false), (4, .bool false), (3, vP g3 0), (2, vP g2 0)] ∧ Mem w wS [.blk g3 z.cells 45, .blk g2 s.cells 45]) (m := s.rs.length - 0) ⟨0, Nat.zero_le _, qd8, rfl, I.sub kr, HM.pk [0, 1]⟩ ?_
 clear I HM; rintro mS a w_ ⟨k, hk, hu, rfl, I, HM⟩
 refine Jb I HM ((JQ∘JP∘Jp 1∘Jg 6 O1∘Jl∘Jp 1∘Jd3∘Jj) (Ju (fun hb49 => ?_) fun hb49 => ?_))
 ·
  intro a I HM
  have hd49 := of_decide_eq_true hb49
  have hk1 : k < s.rs.length := by omega
  have hk2 : k < z.rs.length := by omega
  obtain ⟨x, hx_⟩ : ∃ q, s.rs.getD k Rw.zero = q := ⟨_, rfl⟩
  obtain ⟨y, hy_⟩ : ∃ q, z.rs.getD k Rw.zero = q := ⟨_, rfl⟩
  have hxr : Rd w w.heap.size 3 x.A x.l.length (x.l.flatMap spL) := by rw [← hx_]; exact hx.row hk1
  have hyr : Rd w w.heap.size 3 y.A y.l.length (y.l.flatMap spL) := by rw [← hy_]; exact hz.row hk2
  have hxl : x.l.length ≤ 1000000 := by rw [← hx_]; exact hf.r _ (qm Rw.zero hk1)
  have hyl : y.l.length ≤ 1000000 := by rw [← hy_]; exact hg.r _ (qm Rw.zero hk2)
  obtain ⟨gq1, oq1, hq1, _⟩ := Rd.qt hx.s (Nat.lt_of_le_of_lt (Nat.zero_le _) (show k < s.rs.length from hk1)) de
  have hrq1 := hx.s; rw [hq1] at hrq1
  obtain ⟨gq2, oq2, hq2, _⟩ := Rd.qt hz.s (Nat.lt_of_le_of_lt (Nat.zero_le _) (show k < z.rs.length from hk2)) de
  have hrq2 := hz.s; rw [hq2] at hrq2
  refine Jb I HM ((JT∘JS'∘JQ∘JB) fun a I HM => ?_)
  refine wp_seq ?_
  refine Jb I HM ((Vs .n []) fun wd6 => (Vf 0 6∘Vp [2]∘Vf 5 6∘Vp [7]∘Vc 1 O1) fun a I HM HS => ?_)
  replace I := I.sp 53 (.slice (some ⟨gq1, oq1, none⟩) s.rs.length s.sc) rfl (by rw [hq1]; try rfl)
  refine Vb I HM HS ((Vy 3 (h:=by exact Yl.ix gq1 oq1 k 1 rfl rfl rfl)∘Vy 4 (v := .slice ((s.rs.getD k Rw.zero).A) ((s.rs.getD k Rw.zero).l.length) ((s.rs.getD k Rw.zero).c)) (h:=by exact Yl.o1 hrq1 k Rw.zero hk1 rfl rfl)∘Vo (.slice x.A x.l.length x.c) (by rw [hx_])∘Vc 6 O0) fun a I HM HS => ?_)
  replace I := I.sp 58 (.slice (some ⟨gq2, oq2, none⟩) z.rs.length z.sc) rfl (by rw [hq2]; try rfl)
  refine Vb I HM HS ((Vy 8 (h:=by exact Yl.ix gq2 oq2 k 1 rfl rfl rfl)∘Vy 9 (v := .slice ((z.rs.getD k Rw.zero).A) ((z.rs.getD k Rw.zero).l.length) ((z.rs.getD k Rw.zero).c)) (h:=by exact Yl.o1 hrq2 k Rw.zero hk2 rfl rfl)∘Vo (.slice y.A y.l.length y.c) (by rw [hy_])) fun a I HM HS => ?_)
  refine s_on I 10 rfl ?_
  refine e_cl I [.slice x.A x.l.length x.c, .slice y.A y.l.length y.c] rfl rfl (qn7 x.A x.c x.l y.A y.c y.l _ (HM.old hxr) (HM.old hyr) hxl hyl) ?_
  rintro _ w62 ⟨rfl, hbw⟩
  refine ⟨_, rfl, ?_⟩
  replace HM := HM.call hbw
  clear I; intro a I
  refine keepS (HM.pk [0, 1]) (fun HS => ?_)
  refine Vb I HM HS ((Vp [11]∘Vd∘Jd6) (Ju (fun hb63 => ?_) fun hb63 => ?_))
  ·
   intro a I HM
   have hd63 := of_decide_eq_false ((Bool.not_eq_true' _).mp hb63)
   exact Jb I HM ((JT∘JP∘Jp 1∘Jj∘JZ∘Jz1) fun HM => is_no (p := StaEq s z) (fun e => qpo hk1 hk2 (by rw [hx_, hy_]; exact hd63) e.2.2.2.2) HM.below)
  intro a I HM
  have hd63 := of_decide_eq_true ((Bool.not_eq_false' _).mp hb63)
  refine Jb I HM ((JF∘JS'∘JR∘Jp 1∘JaK 1∘Jp 1∘Jd2∘Jq) fun a I HM => ?_)
  exact ⟨_, om, k + 1, by omega, qd9 (f := fun i => (s.rs.getD i Rw.zero).l) (g := fun i => (z.rs.getD i Rw.zero).l) hu (by rw [hx_, hy_]; exact hd63), rfl, I.sub kr, HM.pk [0, 1]⟩
 intro a I HM
 have hd49 := of_decide_eq_false hb49
 exact Jb I HM ((JF∘JX∘JG∘JP∘Jp 1∘Jj∘JZ∘Jz1) fun HM => by exact qd5 (p := StaEq s z) ⟨hd12, hd20, hd28, hd36, qpn hlm (fun i hi => hu i om)⟩ HM.below)
structure Nums where
 cpus : Nat
 groups : Nat
 credit : Nat
 ps : List Nat
 ws : List Nat
def Nums.cells (n : Nums) : Array Value := (.int .u8 (n.cpus : Int) :: .int .u8 (n.groups : Int) :: .int .u32 (n.credit : Int) :: (n.ps.map (fun z : Nat => Value.int .u8 (z : Int)) ++ n.ws.map (fun z : Nat => Value.int .u16 (z : Int)))).toArray
structure Nums.Ok (n : Nums) : Prop where
 cpus : n.cpus < 256
 groups : n.groups < 256
 credit : n.credit < 4294967296
 pl : n.ps.length = 5
 wl : n.ws.length = 5
 ps : ∀ z ∈ n.ps, z < 256
 ws : ∀ z ∈ n.ws, z < 65536
section
variable {n : Nums} {i g : Nat} {gs : List Gr} {ds : List Nat} {x : Gr}
theorem Nums.p_at (h : n.Ok) (hi : i < 5) : n.cells[3 + i * 1]? = some (.int .u8 (n.ps.getD i 0 : Int)) ∧ n.ps.getD i 0 < 256 := by
 have hl : i < n.ps.length := by rw [h.pl]; exact hi
 refine ⟨?_, h.ps _ (qm 0 hl)⟩
 rw [Nat.mul_one, Nat.add_comm]
 rw [← Array.getElem?_toList]
 unfold Nums.cells
 dsimp only
 rw [List.getElem?_cons_succ, List.getElem?_cons_succ, List.getElem?_cons_succ, List.getElem?_append_left (by rw [List.length_map]; exact hl), List.getElem?_map, getD_at 0 hl]
 rfl
theorem Nums.w_at (h : n.Ok) (hi : i < 5) : n.cells[8 + i * 1]? = some (.int .u16 (n.ws.getD i 0 : Int)) ∧ n.ws.getD i 0 < 65536 := by
 have hl : i < n.ws.length := by rw [h.wl]; exact hi
 refine ⟨?_, h.ws _ (qm 0 hl)⟩
 rw [Nat.mul_one, show 8 + i = (5 + i) + 3 by omega]
 rw [← Array.getElem?_toList]
 unfold Nums.cells
 dsimp only
 rw [List.getElem?_cons_succ, List.getElem?_cons_succ, List.getElem?_cons_succ, List.getElem?_append_right (by rw [List.length_map, h.pl]; omega), List.length_map, h.pl, Nat.add_sub_cancel_left, List.getElem?_map, getD_at 0 hl]
 rfl
def madeF (ps ws : List Nat) : Nat → List Gr × List Nat
 | 0 => ([⟨0, 1⟩], [0])
 | i + 1 =>
  let q := madeF ps ws i
  let u := ps.getD i 0 % q.1.length
  let up := if q.2.getD u 0 = 4 then 0 else u
  (q.1 ++ [⟨(up : Int), ((1 + ws.getD i 0 : Nat) : Int)⟩], q.2 ++ [q.2.getD up 0 + 1])
theorem qmq : ∀ (f g : Nat), g < gs.length → (∀ i, 0 < i → i ≤ g → ParB gs i) → depF (gs ++ [x]) f g = depF gs f g
 | 0, _, _, _ => rfl
 | f + 1, g, hg, hp => by
  rw [depF, depF]
  split
  ·rfl
  ·rename_i h0
   have h1 := hp g om (Nat.le_refl _)
   unfold ParB at h1
   rw [List.getD_eq_getElem?_getD, List.getElem?_append_left hg, ← List.getD_eq_getElem?_getD]
   rw [qmq f _ om (fun i hi hl => hp i hi om)]
theorem qfk {α : Type} {l : List α} {x d : α} {g : Nat} (hg : g < l.length) : (l ++ [x]).getD g d = l.getD g d := by
 rw [List.getD_eq_getElem?_getD, List.getElem?_append_left hg, ← List.getD_eq_getElem?_getD]
theorem qkb {α : Type} {l : List α} {x d : α} : (l ++ [x]).getD l.length d = x := by
 rw [List.getD_eq_getElem?_getD, List.getElem?_append_right (Nat.le_refl _), Nat.sub_self]
 rfl
structure MadeOk (gs : List Gr) (ds : List Nat) : Prop where
 len : ds.length = gs.length
 ok : gsOk gs = true
 dep : ∀ g, g < gs.length → ds.getD g 0 = depG gs g
theorem qmr : MadeOk [⟨0, 1⟩] [0] := ⟨rfl, by decide, fun g hg => by
 obtain rfl : g = 0 := by simp at hg; omega
 rfl⟩
theorem MadeOk.le (h : MadeOk gs ds) (hg : g < gs.length) : ds.getD g 0 ≤ 4 := by
 rw [h.dep g hg]
 have h1 := (qh h.ok).2.2.2 g hg
 unfold gOk at h1
 rw [Bool.or_eq_true, beq_iff_eq, decide_eq_true_eq] at h1
 rcases h1 with rfl | h1
 ·exact Nat.zero_le _
 ·exact h1.2.2.2
theorem MadeOk.snoc {up w : Nat} (h : MadeOk gs ds) (hu : up < gs.length) (hd : ds.getD up 0 < 4) (hw : w < 65536) (hl : gs.length < 256) : MadeOk (gs ++ [⟨(up : Int), ((1 + w : Nat) : Int)⟩]) (ds ++ [ds.getD up 0 + 1]) := by
 obtain ⟨h1, h2, h3, h4⟩ := qh h.ok
 have hlen : (gs ++ [(⟨(up : Int), ((1 + w : Nat) : Int)⟩ : Gr)]).length = gs.length + 1 := by rw [List.length_append]; rfl
 have hp : ∀ g, g < gs.length → ∀ i, 0 < i → i ≤ g → ParB gs i := fun g hg => zy h.ok hg
 have hdep : ∀ g, g < gs.length → depG (gs ++ [⟨(up : Int), ((1 + w : Nat) : Int)⟩]) g = depG gs g := fun g hg => qmq g g hg (hp g hg)
 have hlast : (gs ++ [(⟨(up : Int), ((1 + w : Nat) : Int)⟩ : Gr)]).getD gs.length Gr.zero = ⟨(up : Int), ((1 + w : Nat) : Int)⟩ := qkb
 have hpl : ∀ i, 0 < i → i ≤ gs.length → ParB (gs ++ [⟨(up : Int), ((1 + w : Nat) : Int)⟩]) i := fun i hi hil => by
  unfold ParB
  rcases Nat.lt_or_ge i gs.length with h5 | h5
  ·rw [qfk h5]; exact hp i h5 i hi (Nat.le_refl _)
  ·obtain rfl : i = gs.length := by omega
   rw [hlast]
   exact ⟨by show (0 : Int) ≤ (up : Int); omega, by show (up : Int) < _; omega⟩
 have hnew : depG (gs ++ [⟨(up : Int), ((1 + w : Nat) : Int)⟩]) gs.length = ds.getD up 0 + 1 := by
  rw [qfv hpl om, hlast]
  show depG (gs ++ [⟨(up : Int), ((1 + w : Nat) : Int)⟩]) ((up : Int)).toNat + 1 = _
  rw [Int.toNat_natCast, hdep up hu, h.dep up hu]
 refine ⟨by rw [List.length_append, hlen, h.len]; rfl, ?_, fun g hg => ?_⟩
 ·unfold gsOk
  rw [hlen, qfk om, decide_eq_true ⟨by omega, by omega, h3⟩, Bool.true_and]
  refine qaw fun g hg => ?_
  rcases Nat.lt_or_ge g gs.length with h5 | h5
  ·have h6 := h4 g h5
   unfold gOk at h6 ⊢
   rw [qfk h5, hdep g h5]
   exact h6
  ·obtain rfl : g = gs.length := by omega
   unfold gOk
   rw [hlast, hnew, Bool.or_eq_true, decide_eq_true_eq]
   refine .inr ⟨by show (0 : Int) ≤ (up : Int); omega, by show (up : Int) < _; omega, ?_, by omega⟩
   unfold wOk
   rw [decide_eq_true_eq]
   show (1 : Int) ≤ ((1 + w : Nat) : Int) ∧ ((1 + w : Nat) : Int) ≤ 65536
   omega
 ·rw [hlen] at hg
  rcases Nat.lt_or_ge g gs.length with h5 | h5
  ·rw [qfk (by rw [h.len]; exact h5), hdep g h5, h.dep g h5]
  ·obtain rfl : g = gs.length := by omega
   rw [hnew, ← h.len, qkb]
theorem qq2 {ps ws : List Nat} (hw : ∀ z ∈ ws, z < 65536) : ∀ i, i ≤ 5 → MadeOk (madeF ps ws i).1 (madeF ps ws i).2 ∧ (madeF ps ws i).1.length = i + 1
 | 0, _ => ⟨qmr, rfl⟩
 | i + 1, hi => by
  obtain ⟨h1, h2⟩ := qq2 (ps := ps) hw i om
  have hu : ps.getD i 0 % (madeF ps ws i).1.length < (madeF ps ws i).1.length := Nat.mod_lt _ om
  have hwi : ws.getD i 0 < 65536 := by
   rcases Nat.lt_or_ge i ws.length with h | h
   ·exact hw _ (qm 0 h)
   ·rw [List.getD_eq_getElem?_getD, List.getElem?_eq_none h]; decide
  have h0 : (madeF ps ws i).2.getD 0 0 = 0 := by rw [h1.dep 0 om]; rfl
  have key : ∀ up, up < (madeF ps ws i).1.length → (madeF ps ws i).2.getD up 0 < 4 → MadeOk ((madeF ps ws i).1 ++ [⟨(up : Int), ((1 + ws.getD i 0 : Nat) : Int)⟩]) ((madeF ps ws i).2 ++ [(madeF ps ws i).2.getD up 0 + 1]) := fun up h3 h4 => h1.snoc h3 h4 hwi om
  rw [madeF]
  dsimp only
  refine ⟨?_, by rw [List.length_append, h2]; rfl⟩
  by_cases h4 : (madeF ps ws i).2.getD (ps.getD i 0 % (madeF ps ws i).1.length) 0 = 4
  ·rw [if_pos h4]; exact key 0 om om
  ·rw [if_neg h4]; exact key _ hu (by have := h1.le hu; omega)
theorem qhn {ps ws : List Nat} {u up : Nat} (hq : madeF ps ws i = (gs, ds)) (hu : ps.getD i 0 % gs.length = u) (hup : (if ds.getD u 0 = 4 then 0 else u) = up) : madeF ps ws (i + 1) = (gs ++ [⟨(up : Int), ((1 + ws.getD i 0 : Nat) : Int)⟩], ds ++ [ds.getD up 0 + 1]) := by
 rw [madeF, hq]
 dsimp only
 rw [hu, hup]
end
def Nums.gs (n : Nums) : List Gr := (madeF n.ps n.ws (n.groups % 6)).1
def Nums.cp (n : Nums) : Nat := 1 + n.cpus % 4
theorem Nums.right {n : Nums} (h : n.Ok) : gsOk n.gs = true ∧ n.gs.length = n.groups % 6 + 1 := by
 have := qq2 (ps := n.ps) h.ws (n.groups % 6) om
 exact ⟨this.1.ok, this.2⟩
def Op30.zero : Op30 := ⟨0, 0, 0, 0, 0, 0, 0, 0⟩
def opL (x : Op30) : List Value := x.cells.toList
theorem qlg (x : Op30) : (opL x).length = 8 := rfl
theorem qlh (l : List Op30) : ∀ u ∈ l.flatMap opL, u.oneCell' = true := by
 intro u hu
 obtain ⟨x, _, hx⟩ := List.mem_flatMap.1 hu
 exact qum x u hx
structure Sml where
 kind : Nat
 cpu : Nat
 task : Nat
 group : Nat
 to : Nat
 weight : Nat
 ticks : Nat
 mask : Nat
structure Sml.Ok (x : Sml) : Prop where
 kind : x.kind < 256
 cpu : x.cpu < 256
 task : x.task < 256
 group : x.group < 256
 to : x.to < 256
 weight : x.weight < 65536
 ticks : x.ticks < 4294967296
 mask : x.mask < 256
def Sml.zero : Sml := ⟨0, 0, 0, 0, 0, 0, 0, 0⟩
def Sml.cells (x : Sml) : Array Value := #[.int .u8 (x.kind : Int), .int .u8 (x.cpu : Int), .int .u8 (x.task : Int), .int .u8 (x.group : Int), .int .u8 (x.to : Int), .int .u16 (x.weight : Int), .int .u32 (x.ticks : Int), .int .u8 (x.mask : Int)]
def sml (x : Sml) : List Value := x.cells.toList
theorem qli (x : Sml) : (sml x).length = 8 := rfl
theorem qv0 (x : Sml) : ∀ v ∈ x.cells.toList, v.oneCell' = true := by simp [Sml.cells, Value.oneCell']
def kindT : List Nat := [1, 1, 1, 2, 2, 3, 3, 4, 5, 5, 5, 5, 6, 6, 6, 6, 7, 8, 9, 10]
def Sml.msk (x : Sml) : Nat := if 0 < x.mask % 4 then (1 * 2 ^ (1 + x.to % 4) - 1) ||| 1 * 2 ^ (x.cpu % 4) else x.mask
def Sml.op (x : Sml) : Op30 := ⟨kindT.getD (x.kind % 20) 0, ((x.cpu % 4 : Nat) : Int), ((1 + x.task % 12 : Nat) : Int), ((x.group % 6 : Nat) : Int), ((1 + x.weight : Nat) : Int), ((x.to % 4 : Nat) : Int), ((1 + x.ticks % 16777216 : Nat) : Int), x.msk⟩
theorem qms {k : Nat} (h : k < 20) : (#[.int .u8 1, .int .u8 1, .int .u8 1, .int .u8 2, .int .u8 2, .int .u8 3, .int .u8 3, .int .u8 4, .int .u8 5, .int .u8 5, .int .u8 5, .int .u8 5, .int .u8 6, .int .u8 6, .int .u8 6, .int .u8 6, .int .u8 7, .int .u8 8, .int .u8 9, .int .u8 10] : Array Value)[k]? = some (.int .u8 (kindT.getD k 0 : Int)) := by
 have : ∀ k, k < 20 → (#[.int .u8 1, .int .u8 1, .int .u8 1, .int .u8 2, .int .u8 2, .int .u8 3, .int .u8 3, .int .u8 4, .int .u8 5, .int .u8 5, .int .u8 5, .int .u8 5, .int .u8 6, .int .u8 6, .int .u8 6, .int .u8 6, .int .u8 7, .int .u8 8, .int .u8 9, .int .u8 10] : Array Value)[k]? = some (.int .u8 (kindT.getD k 0 : Int)) := by
  intro k hk
  match k, hk with
  | 0, _ | 1, _ | 2, _ | 3, _ | 4, _ | 5, _ | 6, _ | 7, _ | 8, _ | 9, _ | 10, _ | 11, _ | 12, _ | 13, _ | 14, _ | 15, _ | 16, _ | 17, _ | 18, _ | 19, _ => rfl
  | k + 20, h => omega
 exact this k h
theorem qtj (k : Nat) : kindT.getD k 0 ≤ 10 := by
 rcases Nat.lt_or_ge k 20 with h | h
 ·have : ∀ k, k < 20 → kindT.getD k 0 ≤ 10 := by decide
  exact this k h
 ·rw [List.getD_eq_getElem?_getD, List.getElem?_eq_none h]; decide
theorem qw1 {x : Sml} (h : x.Ok) : x.msk < 256 := by
 unfold Sml.msk
 split
 ·have h1 : 2 ^ (1 + x.to % 4) ≤ 2 ^ 4 := Nat.pow_le_pow_right de om
  have h2 : 2 ^ (x.cpu % 4) ≤ 2 ^ 3 := Nat.pow_le_pow_right de om
  exact Nat.or_lt_two_pow (n := 8) om om
 ·exact h.mask
theorem Sml.qxt {x : Sml} (h : x.Ok) : x.op.Ok := by
 have h1 := qtj (x.kind % 20)
 have h2 := qw1 h
 have h3 := h.weight
 refine ⟨?_, ?_, ?_, ?_, ?_, ?_, ?_, ?_⟩
 ·show kindT.getD (x.kind % 20) 0 < 256; omega
 ·show I64 ((x.cpu % 4 : Nat) : Int); unfold I64; omega
 ·show I64 ((1 + x.task % 12 : Nat) : Int); unfold I64; omega
 ·show I64 ((x.group % 6 : Nat) : Int); unfold I64; omega
 ·show I64 ((1 + x.weight : Nat) : Int); unfold I64; omega
 ·show I64 ((x.to % 4 : Nat) : Int); unfold I64; omega
 ·show I64 ((1 + x.ticks % 16777216 : Nat) : Int); unfold I64; omega
 ·show x.msk < _; omega
def q9 (l : List Sml) (most : Nat) : List Op30 := (l.take most).map Sml.op
theorem qq3 {l : List Sml} {most : Nat} (h : ∀ x ∈ l, x.Ok) : ∀ o ∈ q9 l most, o.Ok := fun o ho => by
 obtain ⟨x, hx, rfl⟩ := List.mem_map.1 ho
 exact Sml.qxt (h x (List.mem_of_mem_take hx))
theorem qv1 : SI Tryz.prog 27 13 := ⟨by kernel_rfl, by kernel_rfl⟩
theorem qw2 : EI Tryz.prog 28 73 (.agg #[.int .u8 0, .int .u8 0, .int .u8 0, .int .u8 0, .int .u8 0, .int .u16 0, .int .u32 0, .int .u8 0]) 8 16 := ⟨by kernel_rfl, by kernel_rfl, rfl, by omega⟩
theorem qus : SI Tryz.prog 73 8 := ⟨by kernel_rfl, by kernel_rfl⟩
def qut (P : Program) (t : TypeId) : Option Nat := match P.underlying t with
 | some (.array n e) => if isOne P e = true ∧ (P.info? e).map (·.size) = some 1 then some n else none
 | _ => none
theorem Yl.qux {P : Program} {S : World → Prop} {σ : List (Nat × Value)} {o : Oper} {t : TypeId} {x ix : Operand} {cs : Array Value} {m y : Nat} {k : Go.IntKind} {v : Value} (hop : o.op = .index t x ix) (hx : look σ x = some (.agg cs)) (hi : look σ ix = some (.int k (y : Int))) (he : qut P t = some m) (hy : y < m) (hv : cs[y]? = some v) : Yl P S σ o v := fun a n D I w hS => by
 unfold qut at he
 split at he
 ·rename_i m' e hu
  split at he
  ·rename_i h1
   obtain ⟨h1, h2⟩ := h1
   obtain ⟨i, hi', h2⟩ := Option.map_eq_some_iff.1 h2
   injection he with he
   subst he
   unfold execOp
   simp [hop, I.eval hx, I.eval hi, Instr.index, asIntOf, run_underlying hu, hy, sizeOf, typeInfo, hi', h2, part, qja h1, hv]
  ·cases he
 ·cases he
theorem qtk (l : List Sml) (m : Nat) : Value.int .i64 (if ((m : Int) < (l.length : Int)) then (m : Int) else (l.length : Int)) = .int .i64 (((l.take m).length : Nat) : Int) := by
 rw [List.length_take]
 congr 1
 split <;> omega
theorem qq4 {z : Nat} (h : z ≤ 4) : 1 * 2 ^ z ≤ 18446744073709551615 := by
 have h1 : 2 ^ z ≤ 2 ^ 4 := Nat.pow_le_pow_right de h
 omega
def MkCfg (w : World) (cp : Int) (cr : Nat) (gs : List Gr) (r : Ending) (w' : World) : Prop := (∃ A c, r = .returned (.agg #[vI cp, vQ cr, .slice A gs.length c]) ∧ w'.ownsRow w.heap.size 50 2 (.slice A gs.length c) gs.length (gs.flatMap grL) ∧ gs.length ≤ c) ∧ Below w.heap.size w w'
theorem qtl {w w' : World} {cp : Int} {cr k c : Nat} {gs gs' : List Gr} {A : Option Addr} (hg : gs = gs') (hl : gs.length = k) (ho : w'.ownsRow w.heap.size 50 2 (.slice A k c) k (gs.flatMap grL)) (hc : k ≤ c) (hb : Below w.heap.size w w') : MkCfg w cp cr gs' (.returned (.agg #[vI cp, vQ cr, .slice A k c])) w' := by
 subst hg
 subst hl
 exact ⟨⟨A, c, rfl, ho, hc⟩, hb⟩
theorem qn9 (n : Nums) (hn : n.Ok) (w : World) :
    Calls Tryz.prog 6 #[.agg n.cells] w (MkCfg w (n.cp : Int) n.credit n.gs) := by
 have hncr := hn.credit; have hncp := hn.cpus; have hngr := hn.groups
 refine (JN1 Tryz.func6 63) ?_
 refine (JP∘JE) fun w1 g1 => (JA #[vI 0, vQ 0, vN]) fun w2 g2 => (Jr∘Jg 0 O1∘Jw .i64∘Jp 1∘Jo (vI (n.cpus % 4 : Nat)) (by exact zn .i64 _ 4)∘Jp 1∘Jo (vI (1 + (n.cpus % 4) : Nat)) (by exact qbl om om)∘Jg 2 O1∘Jw .u64∘Jy (v := .agg #[vI 0, vI 1]) (h:=by exact Yl.build (vs := [(0, vI 0), (1, vI 1)]) rfl kr kr)∘JU ei_gr #[vI 0, vI 1]) fun w16 g16 => (Jy (v := .agg #[vI (1 + (n.cpus % 4) : Nat), vQ n.credit, vS g16 1 1]) (h:=by exact Yl.build (vs := [(0, vI (1 + (n.cpus % 4) : Nat)), (1, vQ n.credit), (2, vS g16 1 1)]) rfl kr kr)∘JA #[vI 0, vQ 0, vN]) fun w3 g3 => (JV qbj O0') fun w1_12 => (Jd6∘Jr∘JU zd #[vI 0]) fun w18 g18 => (Jp 1∘Jd1∘Jq) fun a I HM => ?_
 replace HM := HM.blkRow (i := 2) (n := 1) (size := 2) rfl rfl de
 replace HM := HM.blkRow (i := 0) (n := 1) (size := 1) rfl rfl de
 replace HM : Mem w _ [.row (vS g18 1 1) 1 ([0].map I64v) 3 1, .blk g3 #[vI (1 + (n.cpus % 4) : Nat), vQ n.credit, vS g16 1 1] 33, .row (vS g16 1 1) 1 ([(⟨0, 1⟩ : Gr)].flatMap grL) 50 2, .blk g2 #[vI 0, vQ 0, vN] 33, .blk g1 n.cells 27] := HM
 refine Jb I HM ((JG∘JQ∘JP∘Jg 1 O4∘Jw .i64∘Jp 1∘Jo (vI (n.groups % 6 : Nat)) (by exact zn .i64 _ 6)∘Jp 1∘Jj∘JB) fun a I HM => ?_)
 refine qi (fun mS aS wS => ∃ (i : Nat) (gs : List Gr) (ds : List Nat) (X : Option Addr) (xc : Nat) (Y : Option Addr) (yc : Nat), (i ≤ n.groups % 6) ∧ (madeF n.ps n.ws i = (gs, ds)) ∧ (MadeOk gs ds) ∧ (gs.length = i + 1) ∧ (ds.length = i + 1) ∧ (i + 1 ≤ xc) ∧ (i + 1 ≤ yc) ∧ mS = n.groups % 6 - i ∧ Fr aS 63 [] [(23, vI i), (22, vI (n.groups % 6 : Nat)), (4, .slice Y (i + 1) yc), (3, vP g3 0), (2, vP g2 0), (1, vP g1 0)] ∧ Mem w wS [.row (.slice Y (i + 1) yc) (i + 1) (ds.map I64v) 3 1, .blk g3 #[vI (1 + (n.cpus % 4) : Nat), vQ n.credit, .slice X (i + 1) xc] 33, .row (.slice X (i + 1) xc) (i + 1) (gs.flatMap grL) 50 2, .blk g2 #[vI 0, vQ 0, vN] 33, .blk g1 n.cells 27]) (m := n.groups % 6 - 0) ⟨0, [⟨0, 1⟩], [0], (some ⟨g16, 0, none⟩), 1, (some ⟨g18, 0, none⟩), 1, Nat.zero_le _, rfl, qmr, rfl, rfl, Nat.le_refl _, Nat.le_refl _, rfl, I.sub kr, HM.pk [0, 1, 2, 3, 4]⟩ ?_
 clear I HM; rintro mS a w_ ⟨i, gs, ds, X, xc, Y, yc, hi, hq, hmk, hgl, hdl, hxc, hyc, rfl, I, HM⟩
 refine Jb I HM ((JP∘Jp 1∘Jj∘JQ) (Ju (fun hb24 => ?_) fun hb24 => ?_))
 ·
  intro a I HM
  have hd24 := of_decide_eq_true hb24
  have hi5 : i < 5 := by omega
  have hpv := (Nums.p_at hn hi5).2
  have hwv := (Nums.w_at hn hi5).2
  obtain ⟨u, hu⟩ : ∃ u, n.ps.getD i 0 % gs.length = u := ⟨_, rfl⟩
  have hul : u < gs.length := by rw [← hu]; exact Nat.mod_lt _ om
  have hdu := hmk.le hul
  obtain ⟨up, hup⟩ : ∃ z, (if ds.getD u 0 = 4 then 0 else u) = z := ⟨_, rfl⟩
  refine Jb I HM ((JT∘JS'∘JQ∘JB∘JP∘Jp 2∘Jd1∘Jj) fun a I HM => ?_)
  refine wp_seq ?_
  refine Jb I HM ((Vs .n []) fun wd6 => (Vp [0]∘Vf 1 3∘Vf 5 2∘Vy 2 (v := vP g1 (3 + i * 1)) (h:=by exact (Yl.qam (ad := ⟨g1, 3, none⟩) (m := 5) (y := i) (sz := 1) rfl rfl rfl kr om).as (by rw [Addr.add_mid]))∘Vy 3 (v := vB (n.ps.getD i 0)) (h:=by exact Yl.qo rfl rfl kr (fun _ h => h.cell (i := 4) rfl (Nums.p_at hn om).1))∘Vw 4 .i64∘Vc 6 O1∘Vl 7∘Vy 8 (v := vI ((n.ps.getD i 0) % (i + 1) : Nat)) (h:=by exact Yl.remN (m := (n.ps.getD i 0)) (n := (i + 1)) rfl rfl rfl om)∘Vo (vI u) (by rw [← hu, hgl])∘Vp [9]∘Vd∘Jd6∘JQ∘JP∘Jp 2) ?_)
  repeat (first | clear I | clear HM)
  intro a I HM
  obtain ⟨gY, rfl⟩ := qe (HM.own (i := 0) rfl) (Nat.lt_of_le_of_lt (Nat.zero_le _) (show u < i + 1 from by omega))
  refine Jb I HM ((Jy (h:=by exact Yl.ix0 gY u 1 rfl rfl rfl)∘Jy (h:=by exact Yl.r1 0 u 0 om rfl rfl rfl)∘Jp 1∘Jd4∘Jj) (Ju (fun hb39 => ?_) fun hb39 => ?_))
  ·
   intro a I HM
   have hd39 := eq_of_beq hb39
   have hup0 : up = 0 := by rw [← hup, if_pos om]
   have hd0 : ds.getD 0 0 = 0 := by rw [hmk.dep 0 om]; rfl
   have hupl : up < gs.length := by omega
   have hdup : ds.getD up 0 < 4 := by rw [hup0, hd0]; decide
   refine Jb I HM ((JT∘JR∘Jp 1∘Jq) fun a I HM => ?_)
   replace I := I.sp 6 (vI up) rfl (by rw [hup0]; try rfl)
   refine Jb I HM ((JG∘JP∘Jp 3∘Jy (h:=by exact Yl.ix0 gY up 1 rfl rfl rfl)∘Jy (h:=by exact Yl.r1 0 up 0 om rfl rfl rfl)∘JaK 1∘JU zd #[vI ((ds.getD up 0) + 1 : Nat)]) fun w46 g46 => (JD ([ds.getD up 0 + 1].map I64v) 1 (fun _ _ => O1') zd (hr:=by exact fun HM => HM.rdBlk (i := 0) (n := 1) (size := 1) rfl rfl) (h1:=by simp [Value.oneCell', I64v])) fun w47 A47 c47 hc47 => (Jp 1∘Jd6∘Jq) fun a I HM => ?_)
   replace HM := HM.asRow (i := 1) (ys := (ds ++ [ds.getD up 0 + 1]).map I64v) rfl (by rw [List.map_append])
   replace HM : Mem w _ [.blk g46 #[vI ((ds.getD up 0) + 1 : Nat)] 3, .row (.slice A47 ((i + 1) + 1) c47) ((i + 1) + 1) ((ds ++ [ds.getD up 0 + 1]).map I64v) 3 1, .blk g3 #[vI (1 + (n.cpus % 4) : Nat), vQ n.credit, .slice X (i + 1) xc] 33, .row (.slice X (i + 1) xc) (i + 1) (gs.flatMap grL) 50 2, .blk g2 #[vI 0, vQ 0, vN] 33, .blk g1 n.cells 27] := HM
   refine Jb I HM ((JG∘Vs (.t (.t (.t (.f .n)))) [13]) fun wd10 => (Vf 0 2∘Vp [2, 3]∘Vf 4 8∘Vc 1 O2∘Vy 5 (v := vP g1 (8 + i * 1)) (h:=by exact (Yl.qam (ad := ⟨g1, 8, none⟩) (m := 5) (y := i) (sz := 1) rfl rfl rfl kr om).as (by rw [Addr.add_mid]))∘Vy 6 (v := .int .u16 (n.ws.getD i 0)) (h:=by exact Yl.qo rfl rfl kr (fun _ h => h.cell (i := 4) rfl (Nums.w_at hn om).1))∘Vw 7 .i64∘Vp [8]∘Vo (vI (1 + (n.ws.getD i 0) : Nat)) (by exact qbl om om)∘Vy 9 (v := .agg #[vI up, vI (1 + (n.ws.getD i 0) : Nat)]) (h:=by exact Yl.build (vs := [(0, vI up), (1, vI (1 + (n.ws.getD i 0) : Nat))]) rfl kr kr)) fun a I HM HS => ?_)
   refine s_on I 10 rfl (s_el I HM ei_gr [(0, .agg #[vI up, vI (1 + (n.ws.getD i 0) : Nat)])] #[vI up, vI (1 + (n.ws.getD i 0) : Nat)] ?_)
   clear I HM; intro a w58 g58 I HM
   refine keepS (HM.pk [1, 2, 3, 5, 6]) (fun HS => ?_)
   refine s_on I 11 rfl (ze I HM (i := 4) rfl ei_gr rfl rfl rfl (news := ([(⟨(up : Int), ((1 + n.ws.getD i 0 : Nat) : Int)⟩ : Gr)].flatMap grL)) (HM.rdBlk (i := 0) (n := 1) (size := 2) rfl rfl) (ql4 _) om om rfl de ?_)
   clear I HM; intro a w59 A59 c59 I HM hc59
   refine keepS (HM.pk [1, 2, 3, 5, 6]) (fun HS => ?_)
   refine Vb I HM HS ((Vf 12 2) fun a I HM HS => ?_)
   refine s_on I 13 rfl (s_es I HM 3 fun w10_13 HM => ?_)
   refine noS kr ?_
   refine qb kr ?_
   replace HM := HM.asRow (i := 4) (ys := (gs ++ [(⟨(up : Int), ((1 + n.ws.getD i 0 : Nat) : Int)⟩ : Gr)]).flatMap grL) rfl (by rw [List.flatMap_append])
   replace HM : Mem w _ [.blk g58 #[vI up, vI (1 + (n.ws.getD i 0) : Nat)] 50, .blk g46 #[vI ((ds.getD up 0) + 1 : Nat)] 3, .row (.slice A47 ((i + 1) + 1) c47) ((i + 1) + 1) ((ds ++ [ds.getD up 0 + 1]).map I64v) 3 1, .blk g3 #[vI (1 + (n.cpus % 4) : Nat), vQ n.credit, .slice A59 ((i + 1) + 1) c59] 33, .row (.slice A59 ((i + 1) + 1) c59) ((i + 1) + 1) ((gs ++ [(⟨(up : Int), ((1 + n.ws.getD i 0 : Nat) : Int)⟩ : Gr)]).flatMap grL) 50 2, .blk g2 #[vI 0, vQ 0, vN] 33, .blk g1 n.cells 27] := HM
   refine Jb I HM ((JG∘JR∘JaK 1∘Jp 1∘Jd6∘Jq) fun a I HM => ?_)
   exact ⟨_, om, i + 1, (gs ++ [(⟨(up : Int), ((1 + n.ws.getD i 0 : Nat) : Int)⟩ : Gr)]), (ds ++ [ds.getD up 0 + 1]), A59, c59, A47, c47, by omega, qhn hq hu hup, hmk.snoc hupl hdup hwv om, by rw [List.length_append, hgl]; rfl, by rw [List.length_append, hdl]; rfl, hc59, hc47, rfl, I.sub kr, HM.pk [2, 3, 4, 5, 6]⟩
  intro a I HM
  have hd39 := ne_of_beq_false hb39
  have hup0 : up = u := by rw [← hup, if_neg om]
  have hupl : up < gs.length := by omega
  have hdup : ds.getD up 0 < 4 := by rw [hup0]; omega
  replace I := I.sp 6 (vI up) rfl (by rw [hup0])
  refine Jb I HM ((JF∘JS'∘JP∘Jp 3∘Jy (h:=by exact Yl.ix0 gY up 1 rfl rfl rfl)∘Jy (h:=by exact Yl.r1 0 up 0 om rfl rfl rfl)∘JaK 1∘JU zd #[vI ((ds.getD up 0) + 1 : Nat)]) fun w46 g46 => (JD ([ds.getD up 0 + 1].map I64v) 1 (fun _ _ => O1') zd (hr:=by exact fun HM => HM.rdBlk (i := 0) (n := 1) (size := 1) rfl rfl) (h1:=by simp [Value.oneCell', I64v])) fun w47 A47 c47 hc47 => (Jp 1∘Jd6∘Jq) fun a I HM => ?_)
  replace HM := HM.asRow (i := 1) (ys := (ds ++ [ds.getD up 0 + 1]).map I64v) rfl (by rw [List.map_append])
  replace HM : Mem w _ [.blk g46 #[vI ((ds.getD up 0) + 1 : Nat)] 3, .row (.slice A47 ((i + 1) + 1) c47) ((i + 1) + 1) ((ds ++ [ds.getD up 0 + 1]).map I64v) 3 1, .blk g3 #[vI (1 + (n.cpus % 4) : Nat), vQ n.credit, .slice X (i + 1) xc] 33, .row (.slice X (i + 1) xc) (i + 1) (gs.flatMap grL) 50 2, .blk g2 #[vI 0, vQ 0, vN] 33, .blk g1 n.cells 27] := HM
  refine Jb I HM ((JG∘Vs (.t (.t (.t (.f .n)))) [13]) fun wd10 => (Vf 0 2∘Vp [2, 3]∘Vf 4 8∘Vc 1 O2∘Vy 5 (v := vP g1 (8 + i * 1)) (h:=by exact (Yl.qam (ad := ⟨g1, 8, none⟩) (m := 5) (y := i) (sz := 1) rfl rfl rfl kr om).as (by rw [Addr.add_mid]))∘Vy 6 (v := .int .u16 (n.ws.getD i 0)) (h:=by exact Yl.qo rfl rfl kr (fun _ h => h.cell (i := 4) rfl (Nums.w_at hn om).1))∘Vw 7 .i64∘Vp [8]∘Vo (vI (1 + (n.ws.getD i 0) : Nat)) (by exact qbl om om)∘Vy 9 (v := .agg #[vI up, vI (1 + (n.ws.getD i 0) : Nat)]) (h:=by exact Yl.build (vs := [(0, vI up), (1, vI (1 + (n.ws.getD i 0) : Nat))]) rfl kr kr)) fun a I HM HS => ?_)
  refine s_on I 10 rfl (s_el I HM ei_gr [(0, .agg #[vI up, vI (1 + (n.ws.getD i 0) : Nat)])] #[vI up, vI (1 + (n.ws.getD i 0) : Nat)] ?_)
  clear I HM; intro a w58 g58 I HM
  refine keepS (HM.pk [1, 2, 3, 5, 6]) (fun HS => ?_)
  refine s_on I 11 rfl (ze I HM (i := 4) rfl ei_gr rfl rfl rfl (news := ([(⟨(up : Int), ((1 + n.ws.getD i 0 : Nat) : Int)⟩ : Gr)].flatMap grL)) (HM.rdBlk (i := 0) (n := 1) (size := 2) rfl rfl) (ql4 _) om om rfl de ?_)
  clear I HM; intro a w59 A59 c59 I HM hc59
  refine keepS (HM.pk [1, 2, 3, 5, 6]) (fun HS => ?_)
  refine Vb I HM HS ((Vf 12 2) fun a I HM HS => ?_)
  refine s_on I 13 rfl (s_es I HM 3 fun w10_13 HM => ?_)
  refine noS kr ?_
  refine qb kr ?_
  replace HM := HM.asRow (i := 4) (ys := (gs ++ [(⟨(up : Int), ((1 + n.ws.getD i 0 : Nat) : Int)⟩ : Gr)]).flatMap grL) rfl (by rw [List.flatMap_append])
  replace HM : Mem w _ [.blk g58 #[vI up, vI (1 + (n.ws.getD i 0) : Nat)] 50, .blk g46 #[vI ((ds.getD up 0) + 1 : Nat)] 3, .row (.slice A47 ((i + 1) + 1) c47) ((i + 1) + 1) ((ds ++ [ds.getD up 0 + 1]).map I64v) 3 1, .blk g3 #[vI (1 + (n.cpus % 4) : Nat), vQ n.credit, .slice A59 ((i + 1) + 1) c59] 33, .row (.slice A59 ((i + 1) + 1) c59) ((i + 1) + 1) ((gs ++ [(⟨(up : Int), ((1 + n.ws.getD i 0 : Nat) : Int)⟩ : Gr)]).flatMap grL) 50 2, .blk g2 #[vI 0, vQ 0, vN] 33, .blk g1 n.cells 27] := HM
  refine Jb I HM ((JG∘JR∘JaK 1∘Jp 1∘Jd6∘Jq) fun a I HM => ?_)
  exact ⟨_, om, i + 1, (gs ++ [(⟨(up : Int), ((1 + n.ws.getD i 0 : Nat) : Int)⟩ : Gr)]), (ds ++ [ds.getD up 0 + 1]), A59, c59, A47, c47, by omega, qhn hq hu hup, hmk.snoc hupl hdup hwv om, by rw [List.length_append, hgl]; rfl, by rw [List.length_append, hdl]; rfl, hc59, hc47, rfl, I.sub kr, HM.pk [2, 3, 4, 5, 6]⟩
 intro a I HM
 have hd24 := of_decide_eq_false hb24
 have hie : i = n.groups % 6 := by omega
 have hgs : gs = n.gs := by unfold Nums.gs; rw [← hie, hq]
 refine Jb I HM ((JF∘JX∘JG∘JP∘Jy (v := .agg #[vI (1 + (n.cpus % 4) : Nat), vQ n.credit, .slice X (i + 1) xc]) (h:=by exact Yl.loadS rfl rfl qbj rfl (fun _ h => qa (h.blk (i := 1) rfl)))∘JV qbj O3') fun w12_1 => (Jt1∘Jj∘JZ) fun a I HM => ?_)
 exact ret1 rfl I (.cellS (i := 3) I HM rfl rfl qbj rfl) (qtl hgs hgl (HM.own (i := 2) rfl) hxc HM.below)
theorem List.qkk {α : Type} {l : List α} {m : Nat} : l.take (min m l.length) = l.take m := by
 rcases Nat.le_total m l.length with h | h
 ·rw [Nat.min_eq_left h]
 ·rw [Nat.min_eq_right h, List.take_length, List.take_of_length_le h]
theorem qho (l : List Sml) (most : Nat) : (q9 l most).length = (l.take most).length := List.length_map ..
theorem qq5 {w w' : World} {e : TypeId} {n c : Nat} {A : Option Addr} {q q' : List Op30} (h : q = q') (hn : q.length = n) (ho : w'.ownsRow w.heap.size e 8 (.slice A n c) n (q.flatMap opL)) (hc : n ≤ c) (hb : Below w.heap.size w w') : qgi w e 8 q'.length (q'.flatMap opL) (.returned (.slice A n c)) w' := by
 subst h
 subst hn
 exact ⟨⟨A, c, rfl, ho, hc⟩, hb⟩
theorem qoa (A : Option Addr) (c : Nat) (l : List Sml) (most : Nat) (w : World) (hl : ∀ x ∈ l, x.Ok) (hr : Rd w w.heap.size 8 A l.length (l.flatMap sml)) (hc : l.length ≤ c) (hn : l.length ≤ 9223372036854775807) (hm : most ≤ 1000) :
    Calls Tryz.prog 8 #[.slice A l.length c, vI most] w (qgi w 52 8 (q9 l most).length ((q9 l most).flatMap opL)) := by
 have hlt : (l.take most).length ≤ most ∧ (l.take most).length ≤ l.length := by rw [List.length_take]; omega
 have hr2 : Rd w w.heap.size 8 A (l.take most).length ((l.take most).flatMap sml) := by have h := hr.upto (k := (l.take most).length) om; rw [qf0 sml 8 qli, List.length_take, List.qkk] at h; rw [List.length_take]; exact h
 have hl0 : ∀ x ∈ l.take most, x.Ok := fun x hx => hl x (List.mem_of_mem_take hx)
 obtain ⟨q0, hq0⟩ : ∃ z, l.take most = z := ⟨_, rfl⟩
 rw [hq0] at hr2 hlt hl0
 refine (JN2 Tryz.func8 79) ?_
 refine (JP∘Jp 1∘Jr∘Jp 1∘Jq) fun a I HM => ?_
 replace HM := HM.nil 52 8
 refine Jb I HM ((JG∘JQ∘JP∘Jp 2∘Jl∘Jp 1∘Jy (v := vI (if (most : Int) < (l.length : Int) then (most : Int) else (l.length : Int))) (h:=by exact Yl.min rfl rfl rfl)∘Jo (vI q0.length) (by rw [← hq0]; exact qtk l most)∘Jy (h:=by exact Yl.qbe qw2 (j := q0.length) rfl rfl rfl om)∘Jl∘Jp 1∘Jj∘JB) fun a I HM => ?_)
 refine qi (fun mS aS wS => ∃ (k : Nat) (q : List Op30) (X : Option Addr) (xc : Nat), (k ≤ q0.length) ∧ (q = (q0.take k).map Sml.op) ∧ (k ≤ xc) ∧ mS = q0.length - k ∧ Fr aS 79 [] [(16, vI k), (15, vI q0.length), (14, .slice A q0.length c), (5, .slice X k xc), (4, vN)] ∧ Mem w wS [.row (.slice X k xc) k (q.flatMap opL) 52 8]) (m := q0.length - 0) ⟨0, [], none, 0, Nat.zero_le _, rfl, Nat.le_refl _, rfl, I.sub kr, HM.pk [0]⟩ ?_
 clear I HM; rintro mS a w_ ⟨k, q, X, xc, hk, hq, hxc, rfl, I, HM⟩
 refine Jb I HM ((JP∘Jp 1∘Jj∘JQ) (Ju (fun hb17 => ?_) fun hb17 => ?_))
 ·
  intro a I HM
  have hd17 := of_decide_eq_true hb17
  have hkl : k < q0.length := by omega
  obtain ⟨x, hx⟩ : ∃ z, q0.getD k Sml.zero = z := ⟨_, rfl⟩
  have hxo : x.Ok := by rw [← hx]; exact hl0 _ (qm Sml.zero hkl)
  have hx1 := hxo.kind; have hx2 := hxo.cpu; have hx3 := hxo.task; have hx4 := hxo.group; have hx5 := hxo.to; have hx6 := hxo.weight; have hx7 := hxo.ticks; have hx8 := hxo.mask
  have hp1 : 1 ≤ 2 ^ (1 + x.to % 4) := Nat.one_le_two_pow
  have hp2 := qq4 (show 1 + x.to % 4 ≤ 4 by omega)
  have hp3 := qq4 (show x.cpu % 4 ≤ 4 by omega)
  refine Jb I HM ((JT∘JS'∘JQ∘JB∘JP) ?_)
  repeat (first | clear I | clear HM)
  intro a I HM
  obtain ⟨gA, oA, rfl, _⟩ := hr2.qt (Nat.lt_of_le_of_lt (Nat.zero_le _) (show k < q0.length from by omega)) de
  refine Jb I HM ((Jy (h:=by exact Yl.ix gA oA k 8 rfl rfl rfl)∘Jy (v := .agg ((q0.getD k Sml.zero).cells)) (h:=by exact Yl.loadS rfl rfl qus rfl (fun _ h => (h.old hr2).q4 qli ((getD_at Sml.zero om))))∘Jo (.agg x.cells) (by rw [hx])∘JA #[vB 0, vB 0, vB 0, vB 0, vB 0, .int .u16 0, vW 0, vB 0]) fun w7 g7 => (JV qus O0' (h1:=by exact qv0 x)) fun w4_3 => (Jd2∘Jr∘Jg 1 O0∘Jw .i64∘Jp 1∘Jo (vI (x.cpu % 4 : Nat)) (by exact zn .i64 _ 4)∘Jg 2 O0∘Jw .i64∘Jp 1∘Jo (vI (x.task % 12 : Nat)) (by exact zn .i64 _ 12)∘Jp 1∘Jo (vI (1 + (x.task % 12) : Nat)) (by exact qbl om om)∘Jg 3 O0∘Jw .i64∘Jp 1∘Jo (vI (x.group % 6 : Nat)) (by exact zn .i64 _ 6)∘Jg 4 O0∘Jw .i64∘Jp 1∘Jo (vI (x.to % 4 : Nat)) (by exact zn .i64 _ 4)∘Jg 5 O0∘Jw .i64∘Jp 1∘Jo (vI (1 + x.weight : Nat)) (by exact qbl om om)∘Jg 6 O0∘Jp 1∘Jo (vW (x.ticks % 16777216 : Nat)) (by exact zn .u32 _ 16777216)∘Jw .i64∘Jp 1∘Jo (vI (1 + (x.ticks % 16777216) : Nat)) (by exact qbl om om)∘Jg 7 O0∘Jw .u64∘Jy (v := .agg #[vB 0, vI (x.cpu % 4 : Nat), vI (1 + (x.task % 12) : Nat), vI (x.group % 6 : Nat), vI (1 + x.weight : Nat), vI (x.to % 4 : Nat), vI (1 + (x.ticks % 16777216) : Nat), vQ x.mask]) (h:=by exact Yl.build (vs := [(1, vI (x.cpu % 4 : Nat)), (2, vI (1 + (x.task % 12) : Nat)), (3, vI (x.group % 6 : Nat)), (5, vI (x.to % 4 : Nat)), (4, vI (1 + x.weight : Nat)), (6, vI (1 + (x.ticks % 16777216) : Nat)), (7, vQ x.mask)]) rfl kr kr)∘JA #[vB 0, vI 0, vI 0, vI 0, vI 0, vI 0, vI 0, vQ 0]) fun w8 g8 => (JV si_op O0') fun w5_31 => (Jd6∘Jj∘JQ∘JP∘Jg 7 O1∘Jp 1∘Jo (vB (x.mask % 4 : Nat)) (by exact zn .u8 _ 4)∘Jp 1∘Jd2∘Jj) (Ju (fun hb53 => ?_) fun hb53 => ?_))
  ·
   intro a I HM
   have hd53 := of_decide_eq_true hb53
   have hmk : x.msk = (1 * 2 ^ (1 + x.to % 4) - 1) ||| 1 * 2 ^ (x.cpu % 4) := by unfold Sml.msk; rw [if_pos om]
   refine Jb I HM ((JT∘JP∘Jg 5 O0∘Jp 1∘Jo (vI (1 + (x.to % 4) : Nat)) (by exact qbl om om)∘Jy (v := vQ (1 * 2 ^ (1 + (x.to % 4)) : Nat)) (h:=by exact Yl.shlN (m := 1) (n := (1 + (x.to % 4))) rfl rfl rfl (by show _ ≤ 64; omega) (hp2))∘JsK 1∘Jf 7∘JW O0' O7') fun w7_6 => (Jt5∘Jj∘Vs .n [7]) fun wd8 => (Vf 0 7∘Vf 2 1∘Vc 1 O0∘Vc 3 O0∘Vy 4 (v := vQ (1 * 2 ^ (x.cpu % 4) : Nat)) (h:=by exact Yl.shlN (m := 1) (n := (x.cpu % 4)) rfl rfl rfl (by show _ ≤ 64; omega) (hp3))∘Vp [5]∘Vo (vQ ((1 * 2 ^ (1 + (x.to % 4)) - 1) ||| (1 * 2 ^ (x.cpu % 4)) : Nat)) (by exact qwn (m := 1 * 2 ^ (1 + (x.to % 4)) - 1) (n := 1 * 2 ^ (x.cpu % 4)) om om)∘Vf 6 7) fun a I HM HS => ?_)
   refine s_on I 7 rfl (s_es I HM 0 fun w8_7 HM => ?_)
   refine noS kr ?_
   refine qb kr ?_
   refine Jb I HM ((JG∘JP∘Jy (v := .agg #[vB 1, vB 1, vB 1, vB 2, vB 2, vB 3, vB 3, vB 4, vB 5, vB 5, vB 5, vB 5, vB 6, vB 6, vB 6, vB 6, vB 7, vB 8, vB 9, vB 10]) (h:=by exact Yl.qkj (n := 20) (sz := 1) (vs := [(0, vB 1), (1, vB 1), (2, vB 1), (3, vB 2), (4, vB 2), (5, vB 3), (6, vB 3), (7, vB 4), (8, vB 5), (9, vB 5), (10, vB 5), (11, vB 5), (12, vB 6), (13, vB 6), (14, vB 6), (15, vB 6), (16, vB 7), (17, vB 8), (18, vB 9), (19, vB 10)]) rfl rfl kr kr)∘Jg 0 O1∘Jp 1∘Jo (vB (x.kind % 20 : Nat)) (by exact zn .u8 _ 20)∘Jy (v := vB (kindT.getD (x.kind % 20) 0)) (h:=by exact Yl.qux (m := 20) (y := x.kind % 20) rfl rfl rfl kr om (qms om))∘Jf 0∘JW O0' O0') fun w9_6 => (Jt6∘Jj∘JR∘Jp 1∘Jy (v := .agg #[vB (kindT.getD (x.kind % 20) 0), vI (x.cpu % 4 : Nat), vI (1 + (x.task % 12) : Nat), vI (x.group % 6 : Nat), vI (1 + x.weight : Nat), vI (x.to % 4 : Nat), vI (1 + (x.ticks % 16777216) : Nat), vQ ((1 * 2 ^ (1 + (x.to % 4)) - 1) ||| (1 * 2 ^ (x.cpu % 4)) : Nat)]) (h:=by exact Yl.loadS rfl rfl si_op rfl (fun _ h => qa (h.blk (i := 0) rfl)))∘Jo (.agg x.op.cells) (by unfold Op30.cells Sml.op; rw [hmk]; try rfl)∘JU ei_op x.op.cells) fun w75 g75 => (JD ([x.op].flatMap opL) 3 (fun _ _ => O3') ei_op (hr:=by exact fun HM => HM.rdBlk (i := 0) (n := 1) (size := 8) rfl rfl) (h1:=by exact qlh _)) fun w76 A76 c76 hc76 => (Jp 1∘Jd6∘Jq) fun a I HM => ?_)
   replace HM := HM.asRow (i := 3) (ys := (q ++ [x.op]).flatMap opL) rfl (by rw [List.flatMap_append])
   replace HM : Mem w _ [.blk g75 x.op.cells 52, .blk g8 #[vB (kindT.getD (x.kind % 20) 0), vI (x.cpu % 4 : Nat), vI (1 + (x.task % 12) : Nat), vI (x.group % 6 : Nat), vI (1 + x.weight : Nat), vI (x.to % 4 : Nat), vI (1 + (x.ticks % 16777216) : Nat), vQ ((1 * 2 ^ (1 + (x.to % 4)) - 1) ||| (1 * 2 ^ (x.cpu % 4)) : Nat)] 52, .blk g7 x.cells 73, .row (.slice A76 (k + 1) c76) (k + 1) ((q ++ [x.op]).flatMap opL) 52 8] := HM
   refine Jb I HM ((JG∘JR∘JaK 1∘Jp 1∘Jd1∘Jq) fun a I HM => ?_)
   exact ⟨_, om, k + 1, (q ++ [x.op]), A76, c76, by omega, by rw [hq, qcz Sml.zero hkl, hx, List.map_append]; rfl, hc76, rfl, I.sub kr, HM.pk [3]⟩
  intro a I HM
  have hd53 := of_decide_eq_false hb53
  have hmk : x.msk = x.mask := by unfold Sml.msk; rw [if_neg om]
  refine Jb I HM ((JF∘JS'∘JP∘Jy (v := .agg #[vB 1, vB 1, vB 1, vB 2, vB 2, vB 3, vB 3, vB 4, vB 5, vB 5, vB 5, vB 5, vB 6, vB 6, vB 6, vB 6, vB 7, vB 8, vB 9, vB 10]) (h:=by exact Yl.qkj (n := 20) (sz := 1) (vs := [(0, vB 1), (1, vB 1), (2, vB 1), (3, vB 2), (4, vB 2), (5, vB 3), (6, vB 3), (7, vB 4), (8, vB 5), (9, vB 5), (10, vB 5), (11, vB 5), (12, vB 6), (13, vB 6), (14, vB 6), (15, vB 6), (16, vB 7), (17, vB 8), (18, vB 9), (19, vB 10)]) rfl rfl kr kr)∘Jg 0 O1∘Jp 1∘Jo (vB (x.kind % 20 : Nat)) (by exact zn .u8 _ 20)∘Jy (v := vB (kindT.getD (x.kind % 20) 0)) (h:=by exact Yl.qux (m := 20) (y := x.kind % 20) rfl rfl rfl kr om (qms om))∘Jf 0∘JW O0' O0') fun w9_6 => (Jt5∘Jj∘JR∘Jp 1∘Jy (v := .agg #[vB (kindT.getD (x.kind % 20) 0), vI (x.cpu % 4 : Nat), vI (1 + (x.task % 12) : Nat), vI (x.group % 6 : Nat), vI (1 + x.weight : Nat), vI (x.to % 4 : Nat), vI (1 + (x.ticks % 16777216) : Nat), vQ x.mask]) (h:=by exact Yl.loadS rfl rfl si_op rfl (fun _ h => qa (h.blk (i := 0) rfl)))∘Jo (.agg x.op.cells) (by unfold Op30.cells Sml.op; rw [hmk]; try rfl)∘JU ei_op x.op.cells) fun w75 g75 => (JD ([x.op].flatMap opL) 3 (fun _ _ => O3') ei_op (hr:=by exact fun HM => HM.rdBlk (i := 0) (n := 1) (size := 8) rfl rfl) (h1:=by exact qlh _)) fun w76 A76 c76 hc76 => (Jp 1∘Jd4∘Jq) fun a I HM => ?_)
  replace HM := HM.asRow (i := 3) (ys := (q ++ [x.op]).flatMap opL) rfl (by rw [List.flatMap_append])
  replace HM : Mem w _ [.blk g75 x.op.cells 52, .blk g8 #[vB (kindT.getD (x.kind % 20) 0), vI (x.cpu % 4 : Nat), vI (1 + (x.task % 12) : Nat), vI (x.group % 6 : Nat), vI (1 + x.weight : Nat), vI (x.to % 4 : Nat), vI (1 + (x.ticks % 16777216) : Nat), vQ x.mask] 52, .blk g7 x.cells 73, .row (.slice A76 (k + 1) c76) (k + 1) ((q ++ [x.op]).flatMap opL) 52 8] := HM
  refine Jb I HM ((JG∘JR∘JaK 1∘Jp 1∘Jd1∘Jq) fun a I HM => ?_)
  exact ⟨_, om, k + 1, (q ++ [x.op]), A76, c76, by omega, by rw [hq, qcz Sml.zero hkl, hx, List.map_append]; rfl, hc76, rfl, I.sub kr, HM.pk [3]⟩
 intro a I HM
 have hd17 := of_decide_eq_false hb17
 have hke : k = q0.length := by omega
 have hqe : q = q9 l most := by rw [hq, hke, List.take_length, ← hq0]; rfl
 exact Jb I HM ((JF∘JX∘JG∘JP∘Jp 2∘Jd1∘Jj∘JZ∘Jz1) fun HM => qq5 hqe (by rw [hqe, qho, hq0, ← hke]) (HM.own (i := 0) rfl) hxc HM.below)
theorem qmt {s : Sta} {o : Op30} (ho : o.Ok) (h : GoodS s) : GoodS (doS s o).1 := by
 by_cases he : (stepS s o).2.2 = 0
 ·rw [qim he]; exact (qgd ho h he).rise
 ·rw [qgh he]; exact h
structure Ex where
 op : Op30
 got : Int
 e : Nat
def Ex.zero : Ex := ⟨Op30.zero, 0, 0⟩
def Ex.cells (x : Ex) : Array Value := #[.int .u8 (x.op.kind : Int), .int .i64 x.op.cpu, .int .i64 x.op.task, .int .i64 x.op.group, .int .i64 x.op.weight, .int .i64 x.op.to, .int .i64 x.op.ticks, .int .u64 (x.op.mask : Int), .int .i64 x.got, .int .i64 (x.e : Int)]
def exL (x : Ex) : List Value := x.cells.toList
theorem qv2 (x : Ex) : (exL x).length = 10 := rfl
theorem qw3 (x : Ex) : ∀ v ∈ x.cells.toList, v.oneCell' = true := by simp [Ex.cells, Value.oneCell']
theorem si_ex : SI Tryz.prog 78 10 := ⟨by kernel_rfl, by kernel_rfl⟩
theorem ei_ex : EI Tryz.prog 79 78 (.agg Ex.zero.cells) 10 80 := ⟨by kernel_rfl, by kernel_rfl, rfl, by omega⟩
def exG : List Gr := [⟨0, 1⟩, ⟨0, 1024⟩]
def exO : List Ex := [⟨⟨1, 0, 5, 0, 1024, 0, 0, 1⟩, 0, 0⟩, ⟨⟨1, 0, 6, 1, 1, 0, 0, 1⟩, 0, 0⟩, ⟨⟨6, 0, 0, 0, 0, 0, 0, 0⟩, 5, 0⟩, ⟨⟨5, 0, 0, 0, 0, 0, 1, 0⟩, 5, 0⟩, ⟨⟨6, 0, 0, 0, 0, 0, 0, 0⟩, 6, 0⟩, ⟨⟨5, 0, 0, 0, 0, 0, 1, 0⟩, 6, 0⟩, ⟨⟨6, 0, 0, 0, 0, 0, 0, 0⟩, 5, 0⟩, ⟨⟨3, 0, 0, 0, 0, 0, 0, 0⟩, 5, 0⟩, ⟨⟨6, 0, 0, 0, 0, 0, 0, 0⟩, 6, 0⟩, ⟨⟨5, 0, 0, 0, 0, 0, 2, 0⟩, 6, 0⟩, ⟨⟨2, 0, 5, 0, 0, 0, 0, 0⟩, 0, 0⟩, ⟨⟨9, 0, 6, 0, 0, 1, 0, 0⟩, 0, 300⟩]
def exSt : Nat → Sta
 | 0 => newS 1 0 exG
 | k + 1 => (doS (exSt k) (exO.getD k Ex.zero).op).1
theorem qkc : gsOk exG = true := by decide
theorem ex_ok : ∀ k, (exO.getD k Ex.zero).op.Ok := by
 have h : ∀ x ∈ exO, x.op.Ok := by
  intro x hx
  simp only [exO, List.mem_cons, List.not_mem_nil, or_false] at hx
  rcases hx with rfl | rfl | rfl | rfl | rfl | rfl | rfl | rfl | rfl | rfl | rfl | rfl <;> exact ⟨by decide, by unfold I64; decide, by unfold I64; decide, by unfold I64; decide, by unfold I64; decide, by unfold I64; decide, by unfold I64; decide, by decide⟩
 intro k
 rcases Nat.lt_or_ge k exO.length with hk | hk
 ·exact h _ (qm _ hk)
 ·rw [List.getD_eq_getElem?_getD, List.getElem?_eq_none hk]
  exact ⟨by decide, by unfold I64; decide, by unfold I64; decide, by unfold I64; decide, by unfold I64; decide, by unfold I64; decide, by unfold I64; decide, by decide⟩
theorem qmu {cp : Int} {cr : Nat} {gs : List Gr} (h1 : 1 ≤ cp ∧ cp ≤ 64) (h2 : cr ≤ 1099511627776) (h3 : gsOk gs = true) (h4 : ∀ g ∈ gs, g.Ok) : GoodS (newS cp cr gs) ∧ qpc (newS cp cr gs) = true := by
 obtain ⟨c, rfl⟩ : ∃ c : Nat, cp = (c : Int) := ⟨cp.toNat, by omega⟩
 have hsp : ∀ g, g < gs.length → (newS (c : Int) cr gs).sp.getD g [] = List.replicate c Sp.zero := fun g hg => by
  show (List.replicate gs.length (List.replicate ((c : Int)).toNat Sp.zero)).getD g [] = _
  rw [List.getD_eq_getElem?_getD, List.getElem?_replicate, if_pos hg]
  rfl
 have hspot : ∀ g c', (newS (c : Int) cr gs).spot g c' = Sp.zero := fun g c' => by
  unfold Sta.spot
  rcases Nat.lt_or_ge g gs.length with hg | hg
  ·rw [hsp g hg, List.getD_eq_getElem?_getD, List.getElem?_replicate]
   split <;> rfl
  ·rw [show (newS (c : Int) cr gs).sp.getD g [] = [] by
    show (List.replicate gs.length _).getD g [] = _
    rw [List.getD_eq_getElem?_getD, List.getElem?_eq_none (by rw [List.length_replicate]; exact hg)]; rfl]
   rfl
 have hz : (Sp.zero).Ok := ⟨by decide, by decide, by decide⟩
 have hsl : (newS (c : Int) cr gs).sp.length = gs.length := List.length_replicate ..
 have hgd : GoodS (newS (c : Int) cr gs) := by
  refine ⟨⟨⟨by show I64 (c : Int); unfold I64; omega, by show cr < _; omega, h4, fun x hx => ?_, fun x hx => ?_, fun x hx => (by cases hx), fun l hl x hx => ?_⟩, h1, h2, h3, ?_, ?_, hsl, fun c' hc' => ?_, fun g hg => ?_, fun g c' hg _ => ?_, fun i j _ hj => absurd hj (Nat.not_lt_zero _), fun t ht => (by cases ht)⟩, fun d hd => ?_⟩
  ·rw [List.eq_of_mem_replicate hx]; unfold I64; decide
  ·rw [List.eq_of_mem_replicate hx]; unfold I64; decide
  ·rw [List.eq_of_mem_replicate hl] at hx
   rw [List.eq_of_mem_replicate hx]; exact hz
  ·show ((List.replicate ((c : Int)).toNat (0 : Int)).length : Int) = (c : Int); rw [List.length_replicate]; rfl
  ·show ((List.replicate ((c : Int)).toNat (0 : Int)).length : Int) = (c : Int); rw [List.length_replicate]; rfl
  ·have : (newS (c : Int) cr gs).cl.getD c' 0 = 0 := List.eq_of_mem_replicate (qm 0 hc')
   rw [this]; decide
  ·rw [hsl] at hg; rw [hsp g hg, List.length_replicate]; rfl
  ·rw [hspot]
   rw [hsl] at hg
   unfold spOk
   have hw := wt_at h3 hg
   rw [Bool.and_eq_true]
   refine ⟨?_, by simp [Sp.zero]⟩
   unfold entOk
   rw [decide_eq_true_eq]
   exact ⟨hw.1, hw.2, by show ((0 : Nat) : Int) < _; have := hw.1; show (0 : Int) < (gs.getD g Gr.zero).weight; omega, .inr rfl⟩
  ·exact .inl (List.eq_of_mem_replicate (qm 0 hd))
 refine ⟨hgd, ?_⟩
 unfold qpc
 rw [(qk6 hgd.sh.ok).2 hgd.sh, Bool.true_and]
 refine qaw fun d hd => ?_
 rw [(qk7 hgd.sh.sort).2 hgd.cur d hd, Bool.true_and]
 refine qaw fun g hg => ?_
 have hm : memS (newS (c : Int) cr gs) g d = [] := by
  have key : ∀ n g, gs.length - g ≤ n → memS (newS (c : Int) cr gs) g d = [] := by
   intro n
   induction n with
   | zero =>
    intro g hg
    rw [qdi, hsl, List.drop_of_length_le (by rw [List.length_range]; omega)]
    rfl
   | succ n ih =>
    intro g hg
    rw [qdi, show (newS (c : Int) cr gs).ts = [] from rfl]
    rw [List.filterMap_nil, List.nil_append, List.filterMap_eq_nil_iff]
    intro h hh
    obtain ⟨i, hi, rfl⟩ := List.getElem_of_mem hh
    rw [List.getElem_drop, List.getElem_range]
    unfold grpM
    rw [if_neg]
    rintro ⟨_, h5⟩
    exact absurd (ih (g + 1 + i) om) (by simpa using h5)
  exact key _ g (Nat.le_refl _)
 unfold lowS
 rw [decide_eq_true_eq]
 exact .inl hm
theorem qq6 (k : Nat) : GoodS (exSt k) := by
 induction k with
 | zero => exact (qmu de de qkc (by
   intro g hg
   simp only [exG, List.mem_cons, List.not_mem_nil, or_false] at hg
   rcases hg with rfl | rfl <;> exact ⟨by unfold I64; decide, by unfold I64; decide⟩)).1
 | succ k ih => exact qmt (ex_ok k) ih
theorem ex_r0 : (doS (exSt 0) (exO.getD 0 Ex.zero).op).2 = ((0 : Int), (0 : Nat)) := by kernel_rfl
theorem ex_r1 : (doS (exSt 1) (exO.getD 1 Ex.zero).op).2 = ((0 : Int), (0 : Nat)) := by kernel_rfl
theorem ex_r2 : (doS (exSt 2) (exO.getD 2 Ex.zero).op).2 = ((5 : Int), (0 : Nat)) := by kernel_rfl
theorem ex_r3 : (doS (exSt 3) (exO.getD 3 Ex.zero).op).2 = ((5 : Int), (0 : Nat)) := by kernel_rfl
theorem ex_r4 : (doS (exSt 4) (exO.getD 4 Ex.zero).op).2 = ((6 : Int), (0 : Nat)) := by kernel_rfl
theorem ex_r5 : (doS (exSt 5) (exO.getD 5 Ex.zero).op).2 = ((6 : Int), (0 : Nat)) := by kernel_rfl
theorem ex_r6 : (doS (exSt 6) (exO.getD 6 Ex.zero).op).2 = ((5 : Int), (0 : Nat)) := by kernel_rfl
theorem ex_r7 : (doS (exSt 7) (exO.getD 7 Ex.zero).op).2 = ((5 : Int), (0 : Nat)) := by kernel_rfl
theorem ex_r8 : (doS (exSt 8) (exO.getD 8 Ex.zero).op).2 = ((6 : Int), (0 : Nat)) := by kernel_rfl
theorem ex_r9 : (doS (exSt 9) (exO.getD 9 Ex.zero).op).2 = ((6 : Int), (0 : Nat)) := by kernel_rfl
theorem qw4 : (doS (exSt 10) (exO.getD 10 Ex.zero).op).2 = ((0 : Int), (0 : Nat)) := by kernel_rfl
theorem qw5 : (doS (exSt 11) (exO.getD 11 Ex.zero).op).2 = ((0 : Int), (300 : Nat)) := by kernel_rfl
theorem qw6 {k : Nat} (h : k < 12) : (doS (exSt k) (exO.getD k Ex.zero).op).2 = ((exO.getD k Ex.zero).got, (exO.getD k Ex.zero).e) := by
 have h2 : k = 0 ∨ k = 1 ∨ k = 2 ∨ k = 3 ∨ k = 4 ∨ k = 5 ∨ k = 6 ∨ k = 7 ∨ k = 8 ∨ k = 9 ∨ k = 10 ∨ k = 11 := by omega
 rcases h2 with rfl | rfl | rfl | rfl | rfl | rfl | rfl | rfl | rfl | rfl | rfl | rfl
 ·exact ex_r0
 ·exact ex_r1
 ·exact ex_r2
 ·exact ex_r3
 ·exact ex_r4
 ·exact ex_r5
 ·exact ex_r6
 ·exact ex_r7
 ·exact ex_r8
 ·exact ex_r9
 ·exact qw4
 ·exact qw5
theorem qv3 : exSt 12 = ⟨1, 0, exG, [4], [6], [⟨5, 0, 1024, 0, 1, true, 3072, 0⟩, ⟨6, 1, 1, 0, 1, true, 3145728, 0⟩], [[⟨0, 0, 3072⟩], [⟨3072, 0, 3145728⟩]]⟩ := by kernel_rfl
theorem qw7 {y : Stm} (h : y.sta = exSt 12) : ∃ gA gc lA lc uA uc tA tc sA sc rA rc qA qc, y = ⟨1, 0, gA, gc, exG, lA, lc, [4], uA, uc, [6], tA, tc, [⟨5, 0, 1024, 0, 1, true, 3072, 0⟩, ⟨6, 1, 1, 0, 1, true, 3145728, 0⟩], sA, sc, [⟨rA, rc, [⟨0, 0, 3072⟩]⟩, ⟨qA, qc, [⟨3072, 0, 3145728⟩]⟩]⟩ := by
 rw [qv3] at h
 obtain ⟨cp, cr, gA, gc, gs, lA, lc, cl, uA, uc, cu, tA, tc, ts, sA, sc, rs⟩ := y
 unfold Stm.sta at h
 simp only [Sta.mk.injEq] at h
 obtain ⟨rfl, rfl, rfl, rfl, rfl, rfl, h⟩ := h
 match rs, h with
 | [⟨rA, rc, l1⟩, ⟨qA, qc, l2⟩], h =>
  simp only [List.map_cons, List.map_nil, List.cons.injEq, and_true] at h
  obtain ⟨rfl, rfl⟩ := h
  exact ⟨gA, gc, lA, lc, uA, uc, tA, tc, sA, sc, rA, rc, qA, qc, rfl⟩
end Go.Proofs.YtannicghedpdpaaGreat
