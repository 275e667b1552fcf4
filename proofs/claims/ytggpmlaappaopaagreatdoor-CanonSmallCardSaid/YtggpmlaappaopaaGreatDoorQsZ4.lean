/- Parts. -/
import Derived.Test.YtggpmlaappaopaaGreatDoorQsSep20
import Derived.Test.YtggpmlaappaopaaGreatDoorQsZ3
set_option linter.all false
set_option maxRecDepth 100000
set_option maxHeartbeats 1000000
namespace Go.Proofs.YtggpmlaappaopaaGreatDoor
open Go.RowKit
theorem qkl (x : Stm) (hok : x.sta.Ok) (hf : StFew x) (w : World) (hx : StRd w x) :
    Calls Tryz.prog 111 #[.agg x.cells] w (Is w (.bool (shpS x.sta))) := by
 have hfs := hf.s; have hft := hf.t; have hfg := hf.g; have hfl := hf.l; have hfu := hf.u
 refine qg (vs := [.agg x.cells]) Tryz.func111 rfl rfl (by kernel_rfl) (σ0 := [(0, .agg x.cells)]) rfl ?_
 intro a HF
 have HM := Mem.start w
 refine wp_seq (qa ?_)
 refine fo HF 0 rfl rfl ?_
 refine e_box HF HM (cs := x.cells) rfl rfl rfl rfl (by decide) ?_
 clear HF HM; intro a w1 g1 HF HM
 refine fp HF 1 1 [(2, .bool false)] fun a HF => ?_
 refine qb rfl (wp_seq (wp_seq (qa ?_)))
 refine fp HF 1 0 [(7, vP g1 0)] fun a HF => ?_
 refine fy HF HM 1 rfl rfl rfl (v := .agg #[vI x.cpus, vQ x.credit, .slice x.gA x.gs.length x.gc]) (Yl.qr rfl rfl qas rfl (fun _ h => h.sub (i := 0) rfl 0 rfl)) fun a HF => ?_
 refine fo HF 2 rfl rfl ?_
 refine e_is HF HM [.agg #[vI x.cpus, vQ x.credit, .slice x.gA x.gs.length x.gc]] (.bool (cfgOk x.sta)) rfl rfl (qew x hok hf _ (hx.old HM)) fun w9 hbw HM a HF => ?_
 refine fp HF 2 3 [(11, .bool (!(cfgOk x.sta)))] fun a HF => ?_
 rcases HF.tf 11 rfl with ⟨hb11, HF⟩ | ⟨hb11, HF⟩
 ·
  refine fp HF 27 5 [(38, .bool true)] fun a HF => ?_
  refine qb rfl (qd HF rfl (wp_seq (qa ?_)))
  refine fp HF 1 0 [(2, .bool false)] fun a HF => ?_
  refine qb rfl (wp_ret ?_)
  exact ret1 rfl HF (.tmp HF rfl) (is_as (quj (by simpa using hb11)).symm HM.below)
 have hcf : cfgOk x.sta = true := by simpa using hb11
 obtain ⟨hc1, hc2, hc3, hgs⟩ := qcq hcf
 refine fp HF 1 5 [(12, vP g1 3)] fun a HF => ?_
 refine fy HF HM 6 rfl rfl rfl (v := .slice x.lA x.cl.length x.lc) (Yl.qf rfl rfl (by kernel_rfl) (fun _ h => h.cell (i := 0) rfl (rfl))) fun a HF => ?_
 refine fy HF HM 7 rfl rfl rfl (Yl.len rfl rfl (by kernel_rfl)) fun a HF => ?_
 refine fp HF 2 8 [(16, vP g1 0)] fun a HF => ?_
 refine fy HF HM 10 rfl rfl rfl (v := vI x.cpus) (Yl.qf rfl rfl (by kernel_rfl) (fun _ h => h.cell (i := 0) rfl (rfl))) fun a HF => ?_
 refine fp HF 3 11 [(20, .bool ((x.cl.length : Int) != (x.cpus : Int)))] fun a HF => ?_
 rcases HF.tf 20 rfl with ⟨hb20, HF⟩ | ⟨hb20, HF⟩
 ·
  have hd20 := bne_iff_ne.1 hb20
  refine fp HF 18 14 [(38, .bool true)] fun a HF => ?_
  refine qb rfl (qd HF rfl (wp_seq (qa ?_)))
  refine fp HF 1 0 [(2, .bool false)] fun a HF => ?_
  refine qb rfl (wp_ret ?_)
  exact ret1 rfl HF (.tmp HF rfl) (is_as (qkh (by omega)).symm HM.below)
 have hd20 := bne_eq_false_iff_eq.1 hb20
 refine fp HF 1 14 [(21, vP g1 4)] fun a HF => ?_
 refine fy HF HM 15 rfl rfl rfl (v := .slice x.uA x.cu.length x.uc) (Yl.qf rfl rfl (by kernel_rfl) (fun _ h => h.cell (i := 0) rfl (rfl))) fun a HF => ?_
 refine fy HF HM 16 rfl rfl rfl (Yl.len rfl rfl (by kernel_rfl)) fun a HF => ?_
 refine fp HF 2 17 [(25, vP g1 0)] fun a HF => ?_
 refine fy HF HM 19 rfl rfl rfl (v := vI x.cpus) (Yl.qf rfl rfl (by kernel_rfl) (fun _ h => h.cell (i := 0) rfl (rfl))) fun a HF => ?_
 refine fp HF 3 20 [(29, .bool ((x.cu.length : Int) != (x.cpus : Int)))] fun a HF => ?_
 rcases HF.tf 29 rfl with ⟨hb29, HF⟩ | ⟨hb29, HF⟩
 ·
  have hd29 := bne_iff_ne.1 hb29
  refine fp HF 9 23 [(38, .bool true)] fun a HF => ?_
  refine qb rfl (qd HF rfl (wp_seq (qa ?_)))
  refine fp HF 1 0 [(2, .bool false)] fun a HF => ?_
  refine qb rfl (wp_ret ?_)
  exact ret1 rfl HF (.tmp HF rfl) (is_as (qkh (by omega)).symm HM.below)
 have hd29 := bne_eq_false_iff_eq.1 hb29
 refine fp HF 1 23 [(30, vP g1 6)] fun a HF => ?_
 refine fy HF HM 24 rfl rfl rfl (v := .slice x.sA x.rs.length x.sc) (Yl.qf rfl rfl (by kernel_rfl) (fun _ h => h.cell (i := 0) rfl (rfl))) fun a HF => ?_
 refine fy HF HM 25 rfl rfl rfl (Yl.len rfl rfl (by kernel_rfl)) fun a HF => ?_
 refine fp HF 2 26 [(34, vP g1 2)] fun a HF => ?_
 refine fy HF HM 28 rfl rfl rfl (v := .slice x.gA x.gs.length x.gc) (Yl.qf rfl rfl (by kernel_rfl) (fun _ h => h.cell (i := 0) rfl (rfl))) fun a HF => ?_
 refine fy HF HM 29 rfl rfl rfl (Yl.len rfl rfl (by kernel_rfl)) fun a HF => ?_
 refine fp HF 2 30 [(38, .bool ((x.rs.length : Int) != (x.gs.length : Int)))] fun a HF => ?_
 refine qb rfl ?_
 rcases HF.tf 38 rfl with ⟨hb38, HF⟩ | ⟨hb38, HF⟩
 ·
  have hd38 := bne_iff_ne.1 hb38
  refine qd HF rfl (wp_seq (qa ?_))
  refine fp HF 1 0 [(2, .bool false)] fun a HF => ?_
  refine qb rfl (wp_ret ?_)
  exact ret1 rfl HF (.tmp HF rfl) (is_as (qkh (by omega)).symm HM.below)
 have hd38 := bne_eq_false_iff_eq.1 hb38
 refine qc HF rfl (wp_skip (wp_seq (wp_seq (qa ?_))))
 refine fp HF 1 0 [(3, vI 0)] fun a HF => ?_
 refine qb rfl (wp_block ?_)
 refine qo (fun mS aS wS => ∃ (k : Nat), (k ≤ x.cl.length) ∧ (UpTo k (fun c => clOk (x.cl.getD c 0))) ∧ mS = x.cl.length - k ∧ Fr aS 123 [] [(3, vI k), (38, .bool false), (2, .bool false), (1, vP g1 0)] ∧ Mem w wS [.blk g1 x.cells 30]) (m := x.cl.length - 0) ⟨0, Nat.zero_le _, UpTo.zero, rfl, HF.sub (by kernel_rfl), HM.picks [0] (by decide) rfl⟩ ?_
 clear HF HM; rintro mS a w_ ⟨k, hk, hu0, rfl, HF, HM⟩
 refine wp_seq (wp_seq (qa ?_))
 refine fp HF 2 0 [(40, vP g1 3), (39, vI k)] fun a HF => ?_
 refine fy HF HM 2 rfl rfl rfl (v := .slice x.lA x.cl.length x.lc) (Yl.qf rfl rfl (by kernel_rfl) (fun _ h => h.cell (i := 0) rfl (rfl))) fun a HF => ?_
 refine fy HF HM 3 rfl rfl rfl (Yl.len rfl rfl (by kernel_rfl)) fun a HF => ?_
 refine fp HF 1 4 [(43, .bool (decide ((k : Int) < (x.cl.length : Int))))] fun a HF => ?_
 refine qb rfl ?_
 rcases HF.tf 43 rfl with ⟨hb43, HF⟩ | ⟨hb43, HF⟩
 ·
  have hd43 := of_decide_eq_true hb43
  have hk43 : k < x.cl.length := by omega
  refine qd HF rfl (wp_skip (wp_seq (wp_block (wp_seq (qa ?_)))))
  refine fp HF 1 0 [(46, vP g1 3)] fun a HF => ?_
  refine fy HF HM 1 rfl rfl rfl (v := .slice x.lA x.cl.length x.lc) (Yl.qf rfl rfl (by kernel_rfl) (fun _ h => h.cell (i := 0) rfl (rfl))) fun a HF => ?_
  refine fp HF 1 2 [(48, vI k)] fun a HF => ?_
  obtain ⟨gq1, oq1, hq1, _⟩ := Rd.qp hx.l (Nat.lt_of_le_of_lt (Nat.zero_le _) (show k < x.cl.length from by omega)) (by decide)
  have hrq1 := hx.l; rw [hq1] at hrq1
  replace HF := HF.as (t := 47) (u := .slice (some ⟨gq1, oq1, none⟩) x.cl.length x.lc) rfl (by rw [hq1]; try rfl)
  refine fy HF HM 3 rfl rfl rfl (v := vP gq1 (oq1 + k * 1)) (Yl.ix gq1 oq1 k 1 rfl rfl rfl) fun a HF => ?_
  refine fy HF HM 4 rfl rfl rfl (v := vI (x.cl.getD k 0)) (Yl.qf rfl rfl (by kernel_rfl) (fun _ h => (h.old hrq1).q7 (k := k) (qz (F := I64i) (k := k) (x := (x.cl.getD k 0)) ((getD_at 0 (by omega)))))) fun a HF => ?_
  refine fp HF 2 5 [(52, .bool (decide (((x.cl.getD k 0) : Int) < (0 : Int))))] fun a HF => ?_
  rcases HF.tf 52 rfl with ⟨hb52, HF⟩ | ⟨hb52, HF⟩
  ·
   have hd52 := of_decide_eq_true hb52
   refine fp HF 7 7 [(59, .bool true)] fun a HF => ?_
   refine qb rfl (qd HF rfl (wp_seq (qa ?_)))
   refine fp HF 1 0 [(2, .bool false)] fun a HF => ?_
   refine qb rfl (wp_ret ?_)
   exact ret1 rfl HF (.tmp HF rfl) (is_as (qtj hk43 (qp4 (by omega))).symm HM.below)
  have hd52 := of_decide_eq_false hb52
  refine fp HF 1 7 [(53, vP g1 3)] fun a HF => ?_
  refine fy HF HM 8 rfl rfl rfl (v := .slice x.lA x.cl.length x.lc) (Yl.qf rfl rfl (by kernel_rfl) (fun _ h => h.cell (i := 0) rfl (rfl))) fun a HF => ?_
  refine fp HF 1 9 [(55, vI k)] fun a HF => ?_
  replace HF := HF.as (t := 54) (u := .slice (some ⟨gq1, oq1, none⟩) x.cl.length x.lc) rfl (by rw [hq1]; try rfl)
  refine fy HF HM 10 rfl rfl rfl (v := vP gq1 (oq1 + k * 1)) (Yl.ix gq1 oq1 k 1 rfl rfl rfl) fun a HF => ?_
  refine fy HF HM 11 rfl rfl rfl (v := vI (x.cl.getD k 0)) (Yl.qf rfl rfl (by kernel_rfl) (fun _ h => (h.old hrq1).q7 (k := k) (qz (F := I64i) (k := k) (x := (x.cl.getD k 0)) ((getD_at 0 (by omega)))))) fun a HF => ?_
  refine fp HF 2 12 [(59, .bool (decide (((x.cl.getD k 0) : Int) > (281474976710656 : Int))))] fun a HF => ?_
  refine qb rfl ?_
  rcases HF.tf 59 rfl with ⟨hb59, HF⟩ | ⟨hb59, HF⟩
  ·
   have hd59 := of_decide_eq_true hb59
   refine qd HF rfl (wp_seq (qa ?_))
   refine fp HF 1 0 [(2, .bool false)] fun a HF => ?_
   refine qb rfl (wp_ret ?_)
   exact ret1 rfl HF (.tmp HF rfl) (is_as (qtj hk43 (qp4 (by omega))).symm HM.below)
  have hd59 := of_decide_eq_false hb59
  refine qc HF rfl (wp_skip (qa ?_))
  refine fp HF 2 0 [(45, vI (IntKind.i64.wrap ((k : Int) + 1)))] fun a HF => ?_
  replace HF := HF.sp 45 (vI (k + 1 : Nat)) rfl (qi (by omega) (by omega))
  refine fp HF 1 2 [(3, vI (k + 1 : Nat))] fun a HF => ?_
  refine qb rfl ?_
  exact ⟨_, (by omega), k + 1, by omega, hu0.succ (qsh (by omega)), rfl, HF.sub (by kernel_rfl), HM.picks [0] (by decide) rfl⟩
 have hd43 := of_decide_eq_false hb43
 refine qc HF rfl (wp_exit (wp_seq (wp_seq (qa ?_))))
 refine fp HF 1 0 [(4, vI 0)] fun a HF => ?_
 refine qb rfl (wp_block ?_)
 refine qo (fun mS aS wS => ∃ (g : Nat), (g ≤ x.rs.length) ∧ (UpTo g (rowOk x.sta)) ∧ mS = x.rs.length - g ∧ Fr aS 123 [] [(4, vI g), (43, .bool false), (3, vI k), (38, .bool false), (2, .bool false), (1, vP g1 0)] ∧ Mem w wS [.blk g1 x.cells 30]) (m := x.rs.length - 0) ⟨0, Nat.zero_le _, UpTo.zero, rfl, HF.sub (by kernel_rfl), HM.picks [0] (by decide) rfl⟩ ?_
 clear HF HM; rintro mS a w_ ⟨g, hg, hu, rfl, HF, HM⟩
 refine wp_seq (wp_seq (qa ?_))
 refine fp HF 2 0 [(61, vP g1 6), (60, vI g)] fun a HF => ?_
 refine fy HF HM 2 rfl rfl rfl (v := .slice x.sA x.rs.length x.sc) (Yl.qf rfl rfl (by kernel_rfl) (fun _ h => h.cell (i := 0) rfl (rfl))) fun a HF => ?_
 refine fy HF HM 3 rfl rfl rfl (Yl.len rfl rfl (by kernel_rfl)) fun a HF => ?_
 refine fp HF 1 4 [(64, .bool (decide ((g : Int) < (x.rs.length : Int))))] fun a HF => ?_
 refine qb rfl ?_
 rcases HF.tf 64 rfl with ⟨hb64, HF⟩ | ⟨hb64, HF⟩
 ·
  have hd64 := of_decide_eq_true hb64
  have hg48 : g < x.rs.length := by omega
  obtain ⟨y, hy⟩ : ∃ z, x.rs.getD g Rw.zero = z := ⟨_, rfl⟩
  have hyr : Rd w w.heap.size 3 y.A y.l.length (y.l.flatMap spL) := by rw [← hy]; exact hx.row hg48
  have hyl : y.l.length ≤ 1000000 := by rw [← hy]; exact hf.r _ (q5 Rw.zero hg48)
  have hyo : ∀ z ∈ y.l, z.Ok := by rw [← hy, ← rs_at hg48]; exact hok.sp _ (q5 [] (by rw [qat]; exact hg48))
  obtain ⟨wt, hwt⟩ : ∃ z, (x.gs.getD g Gr.zero).weight = z := ⟨_, rfl⟩
  have hw1 := wt_at hgs (show g < x.gs.length by omega)
  rw [hwt] at hw1
  obtain ⟨gq2, oq2, hq2, _⟩ := Rd.qp hx.g (Nat.lt_of_le_of_lt (Nat.zero_le _) (show g < x.gs.length from by omega)) (by decide)
  have hrq2 := hx.g; rw [hq2] at hrq2
  obtain ⟨gq3, oq3, hq3, _⟩ := Rd.qp hx.s (Nat.lt_of_le_of_lt (Nat.zero_le _) (show g < x.rs.length from hg48)) (by decide)
  have hrq3 := hx.s; rw [hq3] at hrq3
  refine qd HF rfl (wp_skip (wp_seq (wp_block (wp_seq (wp_seq ?_)))))
  refine zc HM [.blk g1 x.cells 30] [0] [] fun HM HS => ?_
  refine ap HF (fun _ => HS) [0, 2, 6, 7] #[true, false, true, false, false, false, true, true, false, false] [(74, vP g1 0), (69, vI g), (67, vP g1 6)] fun a HF => ?_
  refine ay HF HS 1 rfl rfl rfl (v := .slice x.sA x.rs.length x.sc) (Yl.qf rfl rfl (by kernel_rfl) (fun _ h => h.cell (i := 0) rfl (rfl))) fun a HF => ?_
  replace HF := HF.as (t := 68) (u := .slice (some ⟨gq3, oq3, none⟩) x.rs.length x.sc) rfl (by rw [hq3]; try rfl)
  refine ay HF HS 3 rfl rfl rfl (v := vP gq3 (oq3 + g * 1)) (Yl.ix gq3 oq3 g 1 rfl rfl rfl) fun a HF => ?_
  refine ay HF HS 4 rfl rfl rfl (v := .slice ((x.rs.getD g Rw.zero).A) ((x.rs.getD g Rw.zero).l.length) ((x.rs.getD g Rw.zero).c)) (Yl.qf rfl rfl (by kernel_rfl) (fun _ h => (h.old hrq3).q7 (k := g) (qz (F := Rw.val) (k := g) (x := (x.rs.getD g Rw.zero)) ((getD_at Rw.zero hg48))))) fun a HF => ?_
  replace HF := HF.sp 71 (.slice y.A y.l.length y.c) rfl (by rw [hy])
  refine ay HF HS 5 rfl rfl rfl (Yl.len rfl rfl (by kernel_rfl)) fun a HF => ?_
  refine ay HF HS 8 rfl rfl rfl (v := vI x.cpus) (Yl.qf rfl rfl (by kernel_rfl) (fun _ h => h.cell (i := 0) rfl (rfl))) fun a HF => ?_
  refine ap HF (fun _ => HS) [9] #[true, true, true, true, true, true, true, true, true, true] [(76, .bool ((y.l.length : Int) != (x.cpus : Int)))] fun a HF => ?_
  refine qq (by kernel_rfl) ?_
  rcases HF.tf 76 rfl with ⟨hb76, HF⟩ | ⟨hb76, HF⟩
  ·
   have hd76 := bne_iff_ne.1 hb76
   refine qd HF rfl (wp_seq (qa ?_))
   refine fp HF 1 0 [(2, .bool false)] fun a HF => ?_
   refine qb rfl (wp_ret ?_)
   exact ret1 rfl HF (.tmp HF rfl) (is_as (qp3 hg48 (qo6 hg48 (by rw [hy]; omega))).symm HM.below)
  have hd76 := bne_eq_false_iff_eq.1 hb76
  refine qc HF rfl (wp_skip (wp_seq (qa ?_)))
  refine fp HF 1 0 [(5, vI 0)] fun a HF => ?_
  refine qb rfl (wp_block ?_)
  refine qo (fun mS aS wS => ∃ (c : Nat), (c ≤ y.l.length) ∧ (UpTo c (fun c => spOk x.sta g (y.l.getD c Sp.zero))) ∧ mS = y.l.length - c ∧ Fr aS 123 [] [(5, vI c), (76, .bool false), (64, .bool true), (4, vI g), (43, .bool false), (3, vI k), (38, .bool false), (2, .bool false), (1, vP g1 0)] ∧ Mem w wS [.blk g1 x.cells 30]) (m := y.l.length - 0) ⟨0, Nat.zero_le _, UpTo.zero, rfl, HF.sub (by kernel_rfl), HM.picks [0] (by decide) rfl⟩ ?_
  clear HF HM; rintro mS a w_ ⟨c, hc, hu2, rfl, HF, HM⟩
  refine wp_seq (wp_seq (qa ?_))
  refine fp HF 2 0 [(78, vP g1 6), (77, vI c)] fun a HF => ?_
  refine fy HF HM 2 rfl rfl rfl (v := .slice x.sA x.rs.length x.sc) (Yl.qf rfl rfl (by kernel_rfl) (fun _ h => h.cell (i := 0) rfl (rfl))) fun a HF => ?_
  refine fp HF 1 3 [(80, vI g)] fun a HF => ?_
  replace HF := HF.as (t := 79) (u := .slice (some ⟨gq3, oq3, none⟩) x.rs.length x.sc) rfl (by rw [hq3]; try rfl)
  refine fy HF HM 4 rfl rfl rfl (v := vP gq3 (oq3 + g * 1)) (Yl.ix gq3 oq3 g 1 rfl rfl rfl) fun a HF => ?_
  refine fy HF HM 5 rfl rfl rfl (v := .slice ((x.rs.getD g Rw.zero).A) ((x.rs.getD g Rw.zero).l.length) ((x.rs.getD g Rw.zero).c)) (Yl.qf rfl rfl (by kernel_rfl) (fun _ h => (h.old hrq3).q7 (k := g) (qz (F := Rw.val) (k := g) (x := (x.rs.getD g Rw.zero)) ((getD_at Rw.zero hg48))))) fun a HF => ?_
  replace HF := HF.sp 82 (.slice y.A y.l.length y.c) rfl (by rw [hy])
  refine fy HF HM 6 rfl rfl rfl (Yl.len rfl rfl (by kernel_rfl)) fun a HF => ?_
  refine fp HF 1 7 [(84, .bool (decide ((c : Int) < (y.l.length : Int))))] fun a HF => ?_
  refine qb rfl ?_
  rcases HF.tf 84 rfl with ⟨hb84, HF⟩ | ⟨hb84, HF⟩
  ·
   have hd84 := of_decide_eq_true hb84
   have hc61 : c < y.l.length := by omega
   obtain ⟨z, hz⟩ : ∃ q, y.l.getD c Sp.zero = q := ⟨_, rfl⟩
   have hzo := hyo _ (q5 Sp.zero hc61)
   rw [hz] at hzo
   have hzv := hzo.v; have hzr := hzo.r
   refine qd HF rfl (wp_skip (wp_seq (wp_block (wp_seq (qa ?_)))))
   refine fp HF 1 0 [(87, vP g1 6)] fun a HF => ?_
   refine fy HF HM 1 rfl rfl rfl (v := .slice x.sA x.rs.length x.sc) (Yl.qf rfl rfl (by kernel_rfl) (fun _ h => h.cell (i := 0) rfl (rfl))) fun a HF => ?_
   refine fp HF 1 2 [(89, vI g)] fun a HF => ?_
   replace HF := HF.as (t := 88) (u := .slice (some ⟨gq3, oq3, none⟩) x.rs.length x.sc) rfl (by rw [hq3]; try rfl)
   refine fy HF HM 3 rfl rfl rfl (v := vP gq3 (oq3 + g * 1)) (Yl.ix gq3 oq3 g 1 rfl rfl rfl) fun a HF => ?_
   refine fy HF HM 4 rfl rfl rfl (v := .slice ((x.rs.getD g Rw.zero).A) ((x.rs.getD g Rw.zero).l.length) ((x.rs.getD g Rw.zero).c)) (Yl.qf rfl rfl (by kernel_rfl) (fun _ h => (h.old hrq3).q7 (k := g) (qz (F := Rw.val) (k := g) (x := (x.rs.getD g Rw.zero)) ((getD_at Rw.zero hg48))))) fun a HF => ?_
   replace HF := HF.sp 91 (.slice y.A y.l.length y.c) rfl (by rw [hy])
   refine fp HF 1 5 [(92, vI c)] fun a HF => ?_
   obtain ⟨gq4, oq4, hq4, _⟩ := Rd.qp hyr (Nat.lt_of_le_of_lt (Nat.zero_le _) (show c < y.l.length from by omega)) (by decide)
   have hrq4 := hyr; rw [hq4] at hrq4
   replace HF := HF.as (t := 91) (u := .slice (some ⟨gq4, oq4, none⟩) y.l.length y.c) rfl (by rw [hq4]; try rfl)
   refine fy HF HM 6 rfl rfl rfl (v := vP gq4 (oq4 + c * 3)) (Yl.ix gq4 oq4 c 3 rfl rfl rfl) fun a HF => ?_
   refine fy HF HM 7 rfl rfl rfl (v := .agg ((y.l.getD c Sp.zero).cells)) (Yl.qr rfl rfl si_sp rfl (fun _ h => (h.old hrq4).q6 zr ((getD_at Sp.zero hc61)))) fun a HF => ?_
   replace HF := HF.sp 94 (.agg z.cells) rfl (by rw [hz])
   refine fo HF 8 rfl rfl ?_
   refine qs HF HM (cs := #[vQ 0, vW 0, vQ 0]) rfl (by kernel_rfl) rfl (by decide) ?_
   clear HF HM; intro a w6 g6 HF HM
   refine fo HF 9 rfl rfl ?_
   refine e_sa HF HM 0 rfl rfl rfl rfl rfl si_sp rfl rfl (qou z) ?_
   clear HM; intro w16_9 HM
   refine qb rfl ?_
   refine qbe (fun aS wS => Fr aS 123 [] [(122, .bool (!spOk x.sta g z)), (6, vP g6 0), (84, .bool true), (5, vI c), (76, .bool false), (64, .bool true), (4, vI g), (43, .bool false), (3, vI k), (38, .bool false), (2, .bool false), (1, vP g1 0)] ∧ Mem w wS [.blk g6 z.cells 43, .blk g1 x.cells 30]) ?_ ?_
   ·
    refine zc HM [.blk g6 z.cells 43, .blk g1 x.cells 30] [0, 1] [] fun HM HS => ?_
    refine ap HF (fun _ => HS) [0, 2, 4, 5, 7] #[true, false, true, false, true, true, false, true, false, false, false, false, false, false, false, false, false, false, false, false, false, false, false, false, false, false, false, false] [(102, vI g), (100, vP g1 2), (97, vP g6 1), (95, vP g6 0)] fun a HF => ?_
    refine ay HF HS 1 rfl rfl rfl (v := vQ z.v) (Yl.qf rfl rfl (by kernel_rfl) (fun _ h => h.cell (i := 0) rfl (rfl))) fun a HF => ?_
    refine ay HF HS 3 rfl rfl rfl (v := vW z.r) (Yl.qf rfl rfl (by kernel_rfl) (fun _ h => h.cell (i := 0) rfl (rfl))) fun a HF => ?_
    refine ay HF HS 6 rfl rfl rfl (v := .slice x.gA x.gs.length x.gc) (Yl.qf rfl rfl (by kernel_rfl) (fun _ h => h.cell (i := 1) rfl (rfl))) fun a HF => ?_
    replace HF := HF.as (t := 101) (u := .slice (some ⟨gq2, oq2, none⟩) x.gs.length x.gc) rfl (by rw [hq2]; try rfl)
    refine ay HF HS 8 rfl rfl rfl (v := vP gq2 (oq2 + g * 2)) (Yl.ix gq2 oq2 g 2 rfl rfl rfl) fun a HF => ?_
    refine ap HF (fun _ => HS) [9] #[true, true, true, true, true, true, true, true, true, true, false, false, false, false, false, false, false, false, false, false, false, false, false, false, false, false, false, false] [(104, vP gq2 (oq2 + g * 2 + 1))] fun a HF => ?_
    refine ay HF HS 10 rfl rfl rfl (v := vI ((x.gs.getD g Gr.zero).weight)) (Yl.qf rfl rfl (by kernel_rfl) (fun _ h => (h.old hrq2).partAt zk (k := g) (j := 1) (x := (x.gs.getD g Gr.zero)) ((getD_at Gr.zero (by omega))) rfl)) fun a HF => ?_
    replace HF := HF.sp 105 (vI wt) rfl (by rw [hwt])
    refine qm [11] (by kernel_rfl) rfl ?_
    refine all_cons ?_ all_nil
    refine qk HF (i := 11) rfl rfl ?_
    refine e_is HF HM [vQ z.v, vW z.r, vI wt] (.agg #[vQ z.v, vW z.r, vW wt]) rfl rfl (qfu z.v z.r wt (by omega) _) fun w106 hbw HM a HF => ?_
    refine keepS (HM.picks [0, 1] (by decide) rfl) (fun HS => ?_)
    refine qm [12] (by kernel_rfl) rfl ?_
    refine all_cons ?_ all_nil
    refine qk HF (i := 12) rfl rfl ?_
    refine e_is HF HM [.agg #[vQ z.v, vW z.r, vW wt]] (.bool (entOk z.v z.r wt)) rfl rfl (qet z.v z.r wt (by omega) (by omega) (by omega) _) fun w107 hbw HM a HF => ?_
    refine keepS (HM.picks [0, 1] (by decide) rfl) (fun HS => ?_)
    refine ap HF (fun _ => HS) [13, 14] #[true, true, true, true, true, true, true, true, true, true, true, true, true, true, true, false, false, false, false, false, false, false, false, false, false, false, false, false] [(109, .bool (!(entOk z.v z.r wt)))] fun a HF => ?_
    rcases HF.tf 109 rfl with ⟨hb109, HF⟩ | ⟨hb109, HF⟩
    ·
     refine ap HF (fun _ => HS) [15, 16, 17, 18, 19, 20, 21, 22, 23, 24, 25, 26, 27] #[true, true, true, true, true, true, true, true, true, true, true, true, true, true, true, true, true, true, true, true, true, true, true, true, true, true, true, true] [(122, .bool true)] fun a HF => ?_
     refine qq (by kernel_rfl) ?_
     have HF := HF.as (t := 122) (u := .bool (!spOk x.sta g z)) rfl (congrArg Value.bool (by rw [qtd (by rw [hwt]; simpa using hb109)]; rfl))
     exact ⟨HF.sub (by kernel_rfl), HM.picks [0, 1] (by decide) rfl⟩
    refine ap HF (fun _ => HS) [15, 16, 17] #[true, true, true, true, true, true, true, true, true, true, true, true, true, true, true, true, true, true, false, false, false, false, false, false, false, false, false, false] [(112, .bool ((g : Int) == (0 : Int)))] fun a HF => ?_
    rcases HF.tf 112 rfl with ⟨hb112, HF⟩ | ⟨hb112, HF⟩
    ·
     have hd112 := eq_of_beq hb112
     refine ap HF (fun _ => HS) [18] #[true, true, true, true, true, true, true, true, true, true, true, true, true, true, true, true, true, true, true, false, false, false, false, false, false, false, false, false] [(113, vP g6 0)] fun a HF => ?_
     refine ay HF HS 19 rfl rfl rfl (v := vQ z.v) (Yl.qf rfl rfl (by kernel_rfl) (fun _ h => h.cell (i := 0) rfl (rfl))) fun a HF => ?_
     refine ap HF (fun _ => HS) [20, 21] #[true, true, true, true, true, true, true, true, true, true, true, true, true, true, true, true, true, true, true, true, true, true, false, false, false, false, false, false] [(116, .bool (decide ((z.v : Int) > (0 : Int))))] fun a HF => ?_
     rcases HF.tf 116 rfl with ⟨hb116, HF⟩ | ⟨hb116, HF⟩
     ·
      have hd116 := of_decide_eq_true hb116
      refine ap HF (fun _ => HS) [22, 23, 24, 25, 26, 27] #[true, true, true, true, true, true, true, true, true, true, true, true, true, true, true, true, true, true, true, true, true, true, true, true, true, true, true, true] [(122, .bool true)] fun a HF => ?_
      refine qq (by kernel_rfl) ?_
      replace HF := HF.to [(122, .bool true), (6, vP g6 0), (84, .bool true), (5, vI c), (76, .bool false), (64, .bool true), (4, vI g), (43, .bool false), (3, vI k), (38, .bool false), (2, .bool false), (1, vP g1 0)]
      have HF := HF.as (t := 122) (u := .bool (!spOk x.sta g z)) rfl (congrArg Value.bool (by rw [qte (by omega) (by omega)]; rfl))
      exact ⟨HF.sub (by kernel_rfl), HM.picks [0, 1] (by decide) rfl⟩
     have hd116 := of_decide_eq_false hb116
     refine ap HF (fun _ => HS) [22] #[true, true, true, true, true, true, true, true, true, true, true, true, true, true, true, true, true, true, true, true, true, true, true, false, false, false, false, false] [(117, vP g6 1)] fun a HF => ?_
     refine ay HF HS 23 rfl rfl rfl (v := vW z.r) (Yl.qf rfl rfl (by kernel_rfl) (fun _ h => h.cell (i := 0) rfl (rfl))) fun a HF => ?_
     refine ap HF (fun _ => HS) [24, 25, 26, 27] #[true, true, true, true, true, true, true, true, true, true, true, true, true, true, true, true, true, true, true, true, true, true, true, true, true, true, true, true] [(122, .bool (decide ((z.r : Int) > (0 : Int))))] fun a HF => ?_
     refine qq (by kernel_rfl) ?_
     replace HF := HF.to [(122, .bool (decide ((z.r : Int) > (0 : Int)))), (6, vP g6 0), (84, .bool true), (5, vI c), (76, .bool false), (64, .bool true), (4, vI g), (43, .bool false), (3, vI k), (38, .bool false), (2, .bool false), (1, vP g1 0)]
     have HF := HF.as (t := 122) (u := .bool (!spOk x.sta g z)) rfl (congrArg Value.bool (qsi (by rw [hwt]; simpa using hb109) (by omega) (by omega)))
     exact ⟨HF.sub (by kernel_rfl), HM.picks [0, 1] (by decide) rfl⟩
    have hd112 := ne_of_beq_false hb112
    refine ap HF (fun _ => HS) [18, 19, 20, 21, 22, 23, 24, 25, 26, 27] #[true, true, true, true, true, true, true, true, true, true, true, true, true, true, true, true, true, true, true, true, true, true, true, true, true, true, true, true] [(122, .bool false)] fun a HF => ?_
    refine qq (by kernel_rfl) ?_
    have HF := HF.as (t := 122) (u := .bool (!spOk x.sta g z)) rfl (congrArg Value.bool (by rw [qo9 (by rw [hwt]; simpa using hb109) (by omega)]; rfl))
    exact ⟨HF.sub (by kernel_rfl), HM.picks [0, 1] (by decide) rfl⟩
   clear HF HM; rintro a w17 ⟨HF, HM⟩
   rcases HF.tf 122 rfl with ⟨hb122, HF⟩ | ⟨hb122, HF⟩
   ·
    refine qd HF rfl (wp_seq (qa ?_))
    refine fp HF 1 0 [(2, .bool false)] fun a HF => ?_
    refine qb rfl (wp_ret ?_)
    exact ret1 rfl HF (.tmp HF rfl) (is_as (qp3 hg48 (qo7 hg48 (by rw [hy]; exact hc61) (by rw [hy, hz]; simpa using hb122))).symm HM.below)
   refine qc HF rfl (wp_skip (qa ?_))
   refine fp HF 2 0 [(86, vI (IntKind.i64.wrap ((c : Int) + 1)))] fun a HF => ?_
   replace HF := HF.sp 86 (vI (c + 1 : Nat)) rfl (qi (by omega) (by omega))
   refine fp HF 1 2 [(5, vI (c + 1 : Nat))] fun a HF => ?_
   refine qb rfl ?_
   exact ⟨_, (by omega), c + 1, by omega, hu2.succ (by rw [hz]; simpa using hb122), rfl, HF.sub (by kernel_rfl), HM.picks [1] (by decide) rfl⟩
  have hd84 := of_decide_eq_false hb84
  refine qc HF rfl (wp_exit (qa ?_))
  refine fp HF 2 0 [(66, vI (IntKind.i64.wrap ((g : Int) + 1)))] fun a HF => ?_
  replace HF := HF.sp 66 (vI (g + 1 : Nat)) rfl (qi (by omega) (by omega))
  refine fp HF 1 2 [(4, vI (g + 1 : Nat))] fun a HF => ?_
  refine qb rfl ?_
  exact ⟨_, (by omega), g + 1, by omega, hu.succ (qo8 hg48 (by rw [hy]; omega) (by rw [hy]; exact fun i hi => hu2 i (by omega))), rfl, HF.sub (by kernel_rfl), HM.picks [0] (by decide) rfl⟩
 have hd64 := of_decide_eq_false hb64
 refine qc HF rfl (wp_exit (wp_seq (qa ?_)))
 refine fp HF 1 0 [(2, .bool true)] fun a HF => ?_
 refine qb rfl (wp_ret ?_)
 exact ret1 rfl HF (.tmp HF rfl) (is_as (quk hcf (by omega) (fun i hi => hu0 i (by omega)) (fun i hi => hu i (by omega))).symm HM.below)
theorem qm7 (x : Stm) (hok : x.sta.Ok) (hf : StFew x) (w : World) (hx : StRd w x) (hcp : 1 ≤ x.cpus ∧ x.cpus ≤ 64) (hrs : x.rs.length = x.gs.length) :
    Calls Tryz.prog 112 #[.agg x.cells] w (Is w (.bool (allN x.ts.length (tkAt x.sta)))) := by
 have hft := hf.t; have hfg := hf.g
 obtain ⟨n, hn⟩ : ∃ n : Nat, x.cpus = (n : Int) := ⟨x.cpus.toNat, by omega⟩
 have hn64 : 1 ≤ n ∧ n ≤ 64 := by omega
 refine qg (vs := [.agg x.cells]) Tryz.func112 rfl rfl (by kernel_rfl) (σ0 := [(0, .agg x.cells)]) rfl ?_
 intro a HF
 have HM := Mem.start w
 refine wp_seq (qa ?_)
 refine fo HF 0 rfl rfl ?_
 refine e_box HF HM (cs := x.cells) rfl rfl rfl rfl (by decide) ?_
 clear HF HM; intro a w1 g1 HF HM
 refine fp HF 1 1 [(2, .bool false)] fun a HF => ?_
 refine qb rfl (wp_seq (qa ?_))
 refine fp HF 1 0 [(3, vI 0)] fun a HF => ?_
 refine qb rfl (wp_seq (wp_seq (qa ?_)))
 refine fp HF 1 0 [(4, vI 0)] fun a HF => ?_
 refine qb rfl (wp_block ?_)
 refine qo (fun mS aS wS => ∃ (i : Nat), (i ≤ x.ts.length) ∧ (0 ≤ qn x.ts i) ∧ (UpTo i (tkAt x.sta)) ∧ mS = x.ts.length - i ∧ Fr aS 92 [] [(4, vI i), (3, vI (qn x.ts i)), (2, .bool false), (1, vP g1 0)] ∧ Mem w wS [.blk g1 x.cells 30]) (m := x.ts.length - 0) ⟨0, Nat.zero_le _, Int.le_refl _, UpTo.zero, rfl, HF.sub (by kernel_rfl), HM.picks [0] (by decide) rfl⟩ ?_
 clear HF HM; rintro mS a w_ ⟨i, hi, hpp, hu3, rfl, HF, HM⟩
 refine wp_seq (wp_seq (qa ?_))
 refine fp HF 2 0 [(7, vP g1 5), (6, vI i)] fun a HF => ?_
 refine fy HF HM 2 rfl rfl rfl (v := .slice x.tA x.ts.length x.tc) (Yl.qf rfl rfl (by kernel_rfl) (fun _ h => h.cell (i := 0) rfl (rfl))) fun a HF => ?_
 refine fy HF HM 3 rfl rfl rfl (Yl.len rfl rfl (by kernel_rfl)) fun a HF => ?_
 refine fp HF 1 4 [(10, .bool (decide ((i : Int) < (x.ts.length : Int))))] fun a HF => ?_
 refine qb rfl ?_
 rcases HF.tf 10 rfl with ⟨hb10, HF⟩ | ⟨hb10, HF⟩
 ·
  have hd10 := of_decide_eq_true hb10
  have hi98 : i < x.ts.length := by omega
  obtain ⟨t, ht⟩ : ∃ q, x.ts.getD i Tk.zero = q := ⟨_, rfl⟩
  have htok : t.Ok := by rw [← ht]; exact hok.ts _ (q5 Tk.zero hi98)
  have hti := htok.id
  have htv := htok.v; have htr := htok.r; have htm := htok.mask
  unfold I64 at hti
  refine qd HF rfl (wp_skip (wp_seq (wp_block (wp_seq (qa ?_)))))
  refine fp HF 1 0 [(13, vP g1 5)] fun a HF => ?_
  refine fy HF HM 1 rfl rfl rfl (v := .slice x.tA x.ts.length x.tc) (Yl.qf rfl rfl (by kernel_rfl) (fun _ h => h.cell (i := 0) rfl (rfl))) fun a HF => ?_
  refine fp HF 1 2 [(15, vI i)] fun a HF => ?_
  obtain ⟨gq1, oq1, hq1, _⟩ := Rd.qp hx.t (Nat.lt_of_le_of_lt (Nat.zero_le _) (show i < x.ts.length from by omega)) (by decide)
  have hrq1 := hx.t; rw [hq1] at hrq1
  replace HF := HF.as (t := 14) (u := .slice (some ⟨gq1, oq1, none⟩) x.ts.length x.tc) rfl (by rw [hq1]; try rfl)
  refine fy HF HM 3 rfl rfl rfl (v := vP gq1 (oq1 + i * 8)) (Yl.ix gq1 oq1 i 8 rfl rfl rfl) fun a HF => ?_
  refine fy HF HM 4 rfl rfl rfl (v := .agg ((x.ts.getD i Tk.zero).cells)) (Yl.qr rfl rfl si_tk rfl (fun _ h => (h.old hrq1).q6 zf ((getD_at Tk.zero hi98)))) fun a HF => ?_
  replace HF := HF.sp 17 (.agg t.cells) rfl (by rw [ht])
  refine fo HF 5 rfl rfl ?_
  refine qs HF HM (cs := #[vI 0, vI 0, vI 0, vI 0, vQ 0, .bool false, vQ 0, vW 0]) rfl (by kernel_rfl) rfl (by decide) ?_
  clear HF HM; intro a w5 g5 HF HM
  refine fo HF 6 rfl rfl ?_
  refine e_sa HF HM 0 rfl rfl rfl rfl rfl si_tk rfl rfl (qgg t) ?_
  clear HM; intro w5_6 HM
  refine qb rfl (wp_seq (wp_seq (qa ?_)))
  refine fp HF 1 0 [(18, vP g5 0)] fun a HF => ?_
  refine fy HF HM 1 rfl rfl rfl (v := vI t.id) (Yl.qf rfl rfl (by kernel_rfl) (fun _ h => h.cell (i := 0) rfl (rfl))) fun a HF => ?_
  refine fp HF 3 2 [(22, .bool (decide ((t.id : Int) ≤ (qn x.ts i : Int))))] fun a HF => ?_
  rcases HF.tf 22 rfl with ⟨hb22, HF⟩ | ⟨hb22, HF⟩
  ·
   have hd22 := of_decide_eq_true hb22
   refine fp HF 41 5 [(63, .bool true)] fun a HF => ?_
   refine qb rfl (qd HF rfl (wp_seq (qa ?_)))
   refine fp HF 1 0 [(2, .bool false)] fun a HF => ?_
   refine qb rfl (wp_ret ?_)
   exact ret1 rfl HF (.tmp HF rfl) (is_as (zg hi98 (qp7 ht (by omega))).symm HM.below)
  have hd22 := of_decide_eq_false hb22
  refine fp HF 1 5 [(23, vP g5 0)] fun a HF => ?_
  refine fy HF HM 6 rfl rfl rfl (v := vI t.id) (Yl.qf rfl rfl (by kernel_rfl) (fun _ h => h.cell (i := 0) rfl (rfl))) fun a HF => ?_
  refine fp HF 3 7 [(27, .bool (decide ((t.id : Int) > (65535 : Int))))] fun a HF => ?_
  rcases HF.tf 27 rfl with ⟨hb27, HF⟩ | ⟨hb27, HF⟩
  ·
   have hd27 := of_decide_eq_true hb27
   refine fp HF 36 10 [(63, .bool true)] fun a HF => ?_
   refine qb rfl (qd HF rfl (wp_seq (qa ?_)))
   refine fp HF 1 0 [(2, .bool false)] fun a HF => ?_
   refine qb rfl (wp_ret ?_)
   exact ret1 rfl HF (.tmp HF rfl) (is_as (zg hi98 (qc2 ht (qcg (by omega)))).symm HM.below)
  have hd27 := of_decide_eq_false hb27
  refine fp HF 1 10 [(28, vP g5 1)] fun a HF => ?_
  refine fy HF HM 11 rfl rfl rfl (v := vI t.group) (Yl.qf rfl rfl (by kernel_rfl) (fun _ h => h.cell (i := 0) rfl (rfl))) fun a HF => ?_
  refine fp HF 3 12 [(32, .bool (decide ((t.group : Int) < (0 : Int))))] fun a HF => ?_
  rcases HF.tf 32 rfl with ⟨hb32, HF⟩ | ⟨hb32, HF⟩
  ·
   have hd32 := of_decide_eq_true hb32
   refine fp HF 31 15 [(63, .bool true)] fun a HF => ?_
   refine qb rfl (qd HF rfl (wp_seq (qa ?_)))
   refine fp HF 1 0 [(2, .bool false)] fun a HF => ?_
   refine qb rfl (wp_ret ?_)
   exact ret1 rfl HF (.tmp HF rfl) (is_as (zg hi98 (qc2 ht (qcg (by omega)))).symm HM.below)
  have hd32 := of_decide_eq_false hb32
  refine fp HF 1 15 [(33, vP g5 1)] fun a HF => ?_
  refine fy HF HM 16 rfl rfl rfl (v := vI t.group) (Yl.qf rfl rfl (by kernel_rfl) (fun _ h => h.cell (i := 0) rfl (rfl))) fun a HF => ?_
  refine fp HF 2 17 [(36, vP g1 2)] fun a HF => ?_
  refine fy HF HM 19 rfl rfl rfl (v := .slice x.gA x.gs.length x.gc) (Yl.qf rfl rfl (by kernel_rfl) (fun _ h => h.cell (i := 1) rfl (rfl))) fun a HF => ?_
  refine fy HF HM 20 rfl rfl rfl (Yl.len rfl rfl (by kernel_rfl)) fun a HF => ?_
  refine fp HF 3 21 [(41, .bool (decide ((t.group : Int) ≥ (x.gs.length : Int))))] fun a HF => ?_
  rcases HF.tf 41 rfl with ⟨hb41, HF⟩ | ⟨hb41, HF⟩
  ·
   have hd41 := of_decide_eq_true hb41
   refine fp HF 22 24 [(63, .bool true)] fun a HF => ?_
   refine qb rfl (qd HF rfl (wp_seq (qa ?_)))
   refine fp HF 1 0 [(2, .bool false)] fun a HF => ?_
   refine qb rfl (wp_ret ?_)
   exact ret1 rfl HF (.tmp HF rfl) (is_as (zg hi98 (qc2 ht (qcg (by omega)))).symm HM.below)
  have hd41 := of_decide_eq_false hb41
  refine fp HF 1 24 [(42, vP g5 3)] fun a HF => ?_
  refine fy HF HM 25 rfl rfl rfl (v := vI t.cpu) (Yl.qf rfl rfl (by kernel_rfl) (fun _ h => h.cell (i := 0) rfl (rfl))) fun a HF => ?_
  refine fp HF 3 26 [(46, .bool (decide ((t.cpu : Int) < (0 : Int))))] fun a HF => ?_
  rcases HF.tf 46 rfl with ⟨hb46, HF⟩ | ⟨hb46, HF⟩
  ·
   have hd46 := of_decide_eq_true hb46
   refine fp HF 17 29 [(63, .bool true)] fun a HF => ?_
   refine qb rfl (qd HF rfl (wp_seq (qa ?_)))
   refine fp HF 1 0 [(2, .bool false)] fun a HF => ?_
   refine qb rfl (wp_ret ?_)
   exact ret1 rfl HF (.tmp HF rfl) (is_as (zg hi98 (qc2 ht (qcg (by omega)))).symm HM.below)
  have hd46 := of_decide_eq_false hb46
  refine fp HF 1 29 [(47, vP g5 3)] fun a HF => ?_
  refine fy HF HM 30 rfl rfl rfl (v := vI t.cpu) (Yl.qf rfl rfl (by kernel_rfl) (fun _ h => h.cell (i := 0) rfl (rfl))) fun a HF => ?_
  refine fp HF 2 31 [(50, vP g1 0)] fun a HF => ?_
  refine fy HF HM 33 rfl rfl rfl (v := vI x.cpus) (Yl.qf rfl rfl (by kernel_rfl) (fun _ h => h.cell (i := 1) rfl (rfl))) fun a HF => ?_
  refine fp HF 3 34 [(54, .bool (decide ((t.cpu : Int) ≥ (x.cpus : Int))))] fun a HF => ?_
  rcases HF.tf 54 rfl with ⟨hb54, HF⟩ | ⟨hb54, HF⟩
  ·
   have hd54 := of_decide_eq_true hb54
   refine fp HF 9 37 [(63, .bool true)] fun a HF => ?_
   refine qb rfl ?_
   replace HF := HF.to [(63, .bool true), (5, vP g5 0), (10, .bool true), (4, vI i), (3, vI (qn x.ts i)), (2, .bool false), (1, vP g1 0)]
   refine qd HF rfl (wp_seq (qa ?_))
   refine fp HF 1 0 [(2, .bool false)] fun a HF => ?_
   refine qb rfl (wp_ret ?_)
   exact ret1 rfl HF (.tmp HF rfl) (is_as (zg hi98 (qc2 ht (qcg (by omega)))).symm HM.below)
  have hd54 := of_decide_eq_false hb54
  refine fp HF 1 37 [(55, vP g5 2)] fun a HF => ?_
  refine fy HF HM 38 rfl rfl rfl (v := vI t.weight) (Yl.qf rfl rfl (by kernel_rfl) (fun _ h => h.cell (i := 0) rfl (rfl))) fun a HF => ?_
  refine fp HF 3 39 [(59, .bool (decide ((t.weight : Int) < (1 : Int))))] fun a HF => ?_
  rcases HF.tf 59 rfl with ⟨hb59, HF⟩ | ⟨hb59, HF⟩
  ·
   have hd59 := of_decide_eq_true hb59
   refine fp HF 4 42 [(63, .bool true)] fun a HF => ?_
   refine qb rfl ?_
   replace HF := HF.to [(63, .bool true), (5, vP g5 0), (10, .bool true), (4, vI i), (3, vI (qn x.ts i)), (2, .bool false), (1, vP g1 0)]
   refine qd HF rfl (wp_seq (qa ?_))
   refine fp HF 1 0 [(2, .bool false)] fun a HF => ?_
   refine qb rfl (wp_ret ?_)
   exact ret1 rfl HF (.tmp HF rfl) (is_as (zg hi98 (qc2 ht (qo2 (by omega)))).symm HM.below)
  have hd59 := of_decide_eq_false hb59
  refine fp HF 1 42 [(60, vP g5 2)] fun a HF => ?_
  refine fy HF HM 43 rfl rfl rfl (v := vI t.weight) (Yl.qf rfl rfl (by kernel_rfl) (fun _ h => h.cell (i := 0) rfl (rfl))) fun a HF => ?_
  refine fp HF 2 44 [(63, .bool (decide ((t.weight : Int) > (65536 : Int))))] fun a HF => ?_
  refine qb rfl ?_
  replace HF := HF.to [(63, .bool (decide ((t.weight : Int) > (65536 : Int)))), (5, vP g5 0), (10, .bool true), (4, vI i), (3, vI (qn x.ts i)), (2, .bool false), (1, vP g1 0)]
  rcases HF.tf 63 rfl with ⟨hb63, HF⟩ | ⟨hb63, HF⟩
  ·
   have hd63 := of_decide_eq_true hb63
   refine qd HF rfl (wp_seq (qa ?_))
   refine fp HF 1 0 [(2, .bool false)] fun a HF => ?_
   refine qb rfl (wp_ret ?_)
   exact ret1 rfl HF (.tmp HF rfl) (is_as (zg hi98 (qc2 ht (qo2 (by omega)))).symm HM.below)
  have hd63 := of_decide_eq_false hb63
  obtain ⟨k, hk⟩ : ∃ k : Nat, t.cpu = (k : Int) := ⟨t.cpu.toNat, by omega⟩
  have hsh := Nat.div_le_self t.mask (2 ^ k)
  refine qc HF rfl (wp_skip (wp_seq (wp_seq (qa ?_))))
  refine fp HF 1 0 [(64, vP g5 4)] fun a HF => ?_
  refine fy HF HM 1 rfl rfl rfl (v := vQ t.mask) (Yl.qf rfl rfl (by kernel_rfl) (fun _ h => h.cell (i := 0) rfl (rfl))) fun a HF => ?_
  refine fp HF 2 2 [(67, vP g1 0)] fun a HF => ?_
  refine fy HF HM 4 rfl rfl rfl (v := vI x.cpus) (Yl.qf rfl rfl (by kernel_rfl) (fun _ h => h.cell (i := 1) rfl (rfl))) fun a HF => ?_
  replace HF := HF.sp 68 (vI n) rfl (by rw [hn])
  refine fo HF 5 rfl rfl ?_
  refine e_is HF HM [vQ t.mask, vI n] (.bool (decide (2 ^ n ≤ t.mask))) rfl rfl (qqg t.mask n htok.mask hn64 _) fun w69 hbw HM a HF => ?_
  refine fp HF 1 6 [(70, .bool (decide (2 ^ n ≤ t.mask)))] fun a HF => ?_
  rcases HF.tf 70 rfl with ⟨hb70, HF⟩ | ⟨hb70, HF⟩
  ·
   have hd70 := of_decide_eq_true hb70
   refine fp HF 19 7 [(89, .bool true)] fun a HF => ?_
   refine qb rfl (qd HF rfl (wp_seq (qa ?_)))
   refine fp HF 1 0 [(2, .bool false)] fun a HF => ?_
   refine qb rfl (wp_ret ?_)
   exact ret1 rfl HF (.tmp HF rfl) (is_as (zg hi98 (qc2 ht (qta (by rw [hn, Int.toNat_natCast]; simpa using hb70)))).symm HM.below)
  have hd70 := of_decide_eq_false hb70
  refine fp HF 1 7 [(71, vP g5 4)] fun a HF => ?_
  refine fy HF HM 8 rfl rfl rfl (v := vQ t.mask) (Yl.qf rfl rfl (by kernel_rfl) (fun _ h => h.cell (i := 0) rfl (rfl))) fun a HF => ?_
  refine fp HF 1 9 [(73, vP g5 3)] fun a HF => ?_
  refine fy HF HM 10 rfl rfl rfl (v := vI t.cpu) (Yl.qf rfl rfl (by kernel_rfl) (fun _ h => h.cell (i := 0) rfl (rfl))) fun a HF => ?_
  replace HF := HF.sp 74 (vI k) rfl (by rw [hk])
  refine fy HF HM 11 rfl rfl rfl (v := vQ (t.mask / 2 ^ k : Nat)) (Yl.shrN (m := t.mask) (n := k) rfl rfl rfl (by show _ ≤ 64; omega)) fun a HF => ?_
  refine fp HF 1 12 [(76, vQ (Int.tmod ((t.mask / 2 ^ k : Nat) : Int) 2))] fun a HF => ?_
  replace HF := HF.sp 76 (vQ ((t.mask / 2 ^ k) % 2 : Nat)) rfl (qaf .u64 _ 2)
  refine fp HF 3 13 [(79, .bool ((((t.mask / 2 ^ k) % 2 : Nat) : Int) == (0 : Int)))] fun a HF => ?_
  rcases HF.tf 79 rfl with ⟨hb79, HF⟩ | ⟨hb79, HF⟩
  ·
   have hd79 := eq_of_beq hb79
   refine fp HF 10 16 [(89, .bool true)] fun a HF => ?_
   refine qb rfl (qd HF rfl (wp_seq (qa ?_)))
   refine fp HF 1 0 [(2, .bool false)] fun a HF => ?_
   refine qb rfl (wp_ret ?_)
   exact ret1 rfl HF (.tmp HF rfl) (is_as (zg hi98 (qc2 ht (qtb (by rw [hk, Int.toNat_natCast]; omega)))).symm HM.below)
  have hd79 := ne_of_beq_false hb79
  refine fp HF 1 16 [(80, vP g5 6)] fun a HF => ?_
  refine fy HF HM 17 rfl rfl rfl (v := vQ t.v) (Yl.qf rfl rfl (by kernel_rfl) (fun _ h => h.cell (i := 0) rfl (rfl))) fun a HF => ?_
  refine fp HF 1 18 [(82, vP g5 7)] fun a HF => ?_
  refine fy HF HM 19 rfl rfl rfl (v := vW t.r) (Yl.qf rfl rfl (by kernel_rfl) (fun _ h => h.cell (i := 0) rfl (rfl))) fun a HF => ?_
  refine fp HF 1 20 [(84, vP g5 2)] fun a HF => ?_
  refine fy HF HM 21 rfl rfl rfl (v := vI t.weight) (Yl.qf rfl rfl (by kernel_rfl) (fun _ h => h.cell (i := 0) rfl (rfl))) fun a HF => ?_
  refine fo HF 22 rfl rfl ?_
  refine e_is HF HM [vQ t.v, vW t.r, vI t.weight] (.agg #[vQ t.v, vW t.r, vW t.weight]) rfl rfl (qfu t.v t.r t.weight (by omega) _) fun w86 hbw HM a HF => ?_
  refine fo HF 23 rfl rfl ?_
  refine e_is HF HM [.agg #[vQ t.v, vW t.r, vW t.weight]] (.bool (entOk t.v t.r t.weight)) rfl rfl (qet t.v t.r t.weight (by omega) (by omega) (by omega) _) fun w87 hbw HM a HF => ?_
  refine fp HF 2 24 [(89, .bool (!(entOk t.v t.r t.weight)))] fun a HF => ?_
  refine qb rfl ?_
  rcases HF.tf 89 rfl with ⟨hb89, HF⟩ | ⟨hb89, HF⟩
  ·
   refine qd HF rfl (wp_seq (qa ?_))
   refine fp HF 1 0 [(2, .bool false)] fun a HF => ?_
   refine qb rfl (wp_ret ?_)
   exact ret1 rfl HF (.tmp HF rfl) (is_as (zg hi98 (qc2 ht ((qo3 (by omega) (by omega) (by rw [hn, Int.toNat_natCast]; simpa using hb70) (by rw [hk, Int.toNat_natCast]; omega)).trans (by simpa using hb89)))).symm HM.below)
  refine qc HF rfl (wp_skip (qa ?_))
  refine fp HF 1 0 [(90, vP g5 0)] fun a HF => ?_
  refine fy HF HM 1 rfl rfl rfl (v := vI t.id) (Yl.qf rfl rfl (by kernel_rfl) (fun _ h => h.cell (i := 0) rfl (rfl))) fun a HF => ?_
  replace HF := HF.sp 91 (vI (qn x.ts (i + 1))) rfl (by rw [zy, ht])
  refine fp HF 1 2 [(3, vI (qn x.ts (i + 1)))] fun a HF => ?_
  refine qb rfl (qa ?_)
  refine fp HF 2 0 [(12, vI (IntKind.i64.wrap ((i : Int) + 1)))] fun a HF => ?_
  replace HF := HF.sp 12 (vI (i + 1 : Nat)) rfl (qi (by omega) (by omega))
  refine fp HF 1 2 [(4, vI (i + 1 : Nat))] fun a HF => ?_
  refine qb rfl ?_
  exact ⟨_, (by omega), i + 1, by omega, by rw [zy, ht]; omega, hu3.succ (qv5 ht (by omega) ((qo3 (by omega) (by omega) (by rw [hn, Int.toNat_natCast]; simpa using hb70) (by rw [hk, Int.toNat_natCast]; omega)).trans (by simpa using hb89))), rfl, HF.sub (by kernel_rfl), HM.picks [1] (by decide) rfl⟩
 have hd10 := of_decide_eq_false hb10
 refine qc HF rfl (wp_exit (wp_seq (qa ?_)))
 refine fp HF 1 0 [(2, .bool true)] fun a HF => ?_
 refine qb rfl (wp_ret ?_)
 exact ret1 rfl HF (.tmp HF rfl) (is_as (qn2 (fun j hj => hu3 j (by omega))).symm HM.below)
def qkm (x : Stm) (c g : Nat) : Prop := ∀ w : World, StRd w x → Calls Tryz.prog 114 #[.agg x.cells, .int .i64 (g : Int), .int .i64 (c : Int)] w (qtk 173 w (memS x.sta g c))
theorem qm8 (x : Stm) (hok : x.sta.Ok) (hf : StFew x) (hsh : ShAt x) (c : Nat) (hc : (c : Int) < x.cpus) (g : Nat) (hg : g < x.rs.length) (ih : ∀ h, g < h → h < x.rs.length → qkm x c h) : qkm x c g := by
 intro w hx
 have hfs := hf.s; have hft := hf.t; have hfg := hf.g; have hrl := hsh.rs; have hto := hok.ts
 obtain ⟨hc1, hc2, _, hgs⟩ := qcq hsh.cfg
 refine qg (vs := [.agg x.cells, vI g, vI c]) Tryz.func114 rfl rfl (by kernel_rfl) (σ0 := [(0, .agg x.cells), (1, vI g), (2, vI c)]) rfl ?_
 intro a HF
 have HM := Mem.start w
 refine wp_seq (qa ?_)
 refine fo HF 0 rfl rfl ?_
 refine e_box HF HM (cs := x.cells) rfl rfl rfl rfl (by decide) ?_
 clear HF HM; intro a w3 g3 HF HM
 refine fp HF 1 1 [(6, .slice none 0 0)] fun a HF => ?_
 refine qb rfl (wp_seq (qa ?_))
 refine fp HF 1 0 [(7, .slice none 0 0)] fun a HF => ?_
 refine qb rfl ?_
 replace HM := HM.nil 173 3
 refine wp_seq (wp_seq (qa ?_))
 refine fp HF 1 0 [(8, vI 0)] fun a HF => ?_
 refine qb rfl (wp_block ?_)
 refine qo (fun mS aS wS => ∃ (i : Nat) (q : List Mb) (Ao : Option Addr) (co : Nat), (i ≤ x.ts.length) ∧ (q = (x.ts.take i).filterMap (tkM · g c)) ∧ (q.length ≤ i) ∧ (q.length ≤ co) ∧ mS = x.ts.length - i ∧ Fr aS 84 [] [(8, vI i), (7, .slice Ao q.length co), (6, .slice none 0 0), (3, vP g3 0), (1, vI g), (2, vI c)] ∧ Mem w wS [.row (.slice Ao q.length co) q.length (q.flatMap mbrL) 173 3, .blk g3 x.cells 30]) (m := x.ts.length - 0) ⟨0, [], none, 0, Nat.zero_le _, rfl, Nat.le_refl _, Nat.le_refl _, rfl, HF.sub (by kernel_rfl), HM.picks [0, 1] (by decide) rfl⟩ ?_
 clear HF HM; rintro mS a w_ ⟨i, q, Ao, co, hi, hq, hql, hco, rfl, HF, HM⟩
 refine wp_seq (wp_seq (qa ?_))
 refine fp HF 2 0 [(12, vP g3 5), (11, vI i)] fun a HF => ?_
 refine fy HF HM 2 rfl rfl rfl (v := .slice x.tA x.ts.length x.tc) (Yl.qf rfl rfl (by kernel_rfl) (fun _ h => h.cell (i := 1) rfl (rfl))) fun a HF => ?_
 refine fy HF HM 3 rfl rfl rfl (Yl.len rfl rfl (by kernel_rfl)) fun a HF => ?_
 refine fp HF 1 4 [(15, .bool (decide ((i : Int) < (x.ts.length : Int))))] fun a HF => ?_
 refine qb rfl ?_
 rcases HF.tf 15 rfl with ⟨hb15, HF⟩ | ⟨hb15, HF⟩
 ·
  have hd15 := of_decide_eq_true hb15
  have hi15 : i < x.ts.length := by omega
  obtain ⟨t, ht⟩ : ∃ z, (x.ts.getD i Tk.zero) = z := ⟨_, rfl⟩
  have htid := tk_id (hsh.tk i hi15)
  rw [ht] at htid
  refine qd HF rfl (wp_skip (wp_seq (wp_block (wp_seq (qa ?_)))))
  refine fp HF 1 0 [(18, vP g3 5)] fun a HF => ?_
  refine fy HF HM 1 rfl rfl rfl (v := .slice x.tA x.ts.length x.tc) (Yl.qf rfl rfl (by kernel_rfl) (fun _ h => h.cell (i := 1) rfl (rfl))) fun a HF => ?_
  refine fp HF 1 2 [(20, vI i)] fun a HF => ?_
  obtain ⟨gq1, oq1, hq1, _⟩ := Rd.qp hx.t (Nat.lt_of_le_of_lt (Nat.zero_le _) (show i < x.ts.length from by omega)) (by decide)
  have hrq1 := hx.t; rw [hq1] at hrq1
  replace HF := HF.as (t := 19) (u := .slice (some ⟨gq1, oq1, none⟩) x.ts.length x.tc) rfl (by rw [hq1]; try rfl)
  refine fy HF HM 3 rfl rfl rfl (v := vP gq1 (oq1 + i * 8)) (Yl.ix gq1 oq1 i 8 rfl rfl rfl) fun a HF => ?_
  refine fy HF HM 4 rfl rfl rfl (v := .agg ((x.ts.getD i Tk.zero).cells)) (Yl.qr rfl rfl si_tk rfl (fun _ h => (h.old hrq1).q6 zf ((getD_at Tk.zero hi15)))) fun a HF => ?_
  replace HF := HF.sp 22 (.agg t.cells) rfl (by rw [ht])
  refine fo HF 5 rfl rfl ?_
  refine qs HF HM (cs := #[vI 0, vI 0, vI 0, vI 0, vQ 0, .bool false, vQ 0, vW 0]) rfl (by kernel_rfl) rfl (by decide) ?_
  clear HF HM; intro a w9 g9 HF HM
  refine fo HF 6 rfl rfl ?_
  refine e_sa HF HM 0 rfl rfl rfl rfl rfl si_tk rfl rfl (qgg t) ?_
  clear HM; intro w5_6 HM
  refine qb rfl ?_
  refine qbe (fun aS wS => Fr aS 84 [] [(36, .bool (t.here g c)), (9, vP g9 0), (15, .bool true), (8, vI i), (7, .slice Ao q.length co), (6, .slice none 0 0), (3, vP g3 0), (1, vI g), (2, vI c)] ∧ Mem w wS [.blk g9 t.cells 46, .row (.slice Ao q.length co) q.length (q.flatMap mbrL) 173 3, .blk g3 x.cells 30]) ?_ ?_
  ·
   refine qa ?_
   refine fp HF 1 0 [(23, vP g9 5)] fun a HF => ?_
   refine fy HF HM 1 rfl rfl rfl (v := .bool t.ready) (Yl.qf rfl rfl (by kernel_rfl) (fun _ h => h.cell (i := 0) rfl (rfl))) fun a HF => ?_
   refine fp HF 1 2 [(25, .bool t.ready)] fun a HF => ?_
   rcases HF.tf 25 rfl with ⟨hb25, HF⟩ | ⟨hb25, HF⟩
   ·
    refine fp HF 1 3 [(26, vP g9 1)] fun a HF => ?_
    refine fy HF HM 4 rfl rfl rfl (v := vI t.group) (Yl.qf rfl rfl (by kernel_rfl) (fun _ h => h.cell (i := 0) rfl (rfl))) fun a HF => ?_
    refine fp HF 4 5 [(31, .bool ((t.group : Int) == (g : Int)))] fun a HF => ?_
    rcases HF.tf 31 rfl with ⟨hb31, HF⟩ | ⟨hb31, HF⟩
    ·
     have hd31 := eq_of_beq hb31
     refine fp HF 1 9 [(32, vP g9 3)] fun a HF => ?_
     refine fy HF HM 10 rfl rfl rfl (v := vI t.cpu) (Yl.qf rfl rfl (by kernel_rfl) (fun _ h => h.cell (i := 0) rfl (rfl))) fun a HF => ?_
     refine fp HF 3 11 [(36, .bool ((t.cpu : Int) == (c : Int)))] fun a HF => ?_
     refine qb rfl ?_
     have HF := HF.as (t := 36) (u := .bool (t.here g c)) rfl (congrArg Value.bool (by unfold Tk.here; rw [hb25, decide_eq_true (by omega), Bool.true_and, Bool.true_and, Bool.eq_iff_iff, beq_iff_eq, decide_eq_true_eq]))
     exact ⟨HF.sub (by kernel_rfl), HM.picks [0, 1, 2] (by decide) rfl⟩
    have hd31 := ne_of_beq_false hb31
    refine fp HF 5 9 [(36, .bool false)] fun a HF => ?_
    refine qb rfl ?_
    have HF := HF.as (t := 36) (u := .bool (t.here g c)) rfl (congrArg Value.bool (by unfold Tk.here; rw [hb25, decide_eq_false (by omega)]; rfl))
    exact ⟨HF.sub (by kernel_rfl), HM.picks [0, 1, 2] (by decide) rfl⟩
   refine fp HF 11 3 [(36, .bool false)] fun a HF => ?_
   refine qb rfl ?_
   have HF := HF.as (t := 36) (u := .bool (t.here g c)) rfl (congrArg Value.bool (by unfold Tk.here; rw [hb25]; rfl))
   exact ⟨HF.sub (by kernel_rfl), HM.picks [0, 1, 2] (by decide) rfl⟩
  clear HF HM; rintro a w6 ⟨HF, HM⟩
  rcases HF.tf 36 rfl with ⟨hb36, HF⟩ | ⟨hb36, HF⟩
  ·
   have hq2 : q ++ [(⟨t.v, 0, t.id.toNat⟩ : Mb)] = (x.ts.take (i + 1)).filterMap (tkM · g c) := by rw [qab Tk.zero hi15, ← hq, ht, tkM, if_pos hb36]; rfl
   refine qd HF rfl (qa ?_)
   refine fp HF 2 0 [(38, vP g9 6), (37, .slice Ao q.length co)] fun a HF => ?_
   refine fy HF HM 2 rfl rfl rfl (v := vQ t.v) (Yl.qf rfl rfl (by kernel_rfl) (fun _ h => h.cell (i := 0) rfl (rfl))) fun a HF => ?_
   refine fp HF 1 3 [(40, vP g9 0)] fun a HF => ?_
   refine fy HF HM 4 rfl rfl rfl (v := vI t.id) (Yl.qf rfl rfl (by kernel_rfl) (fun _ h => h.cell (i := 0) rfl (rfl))) fun a HF => ?_
   replace HF := HF.sp 41 (vI t.id.toNat) rfl (by rw [Int.toNat_of_nonneg (by omega)])
   refine fy HF HM 5 rfl rfl rfl (v := .agg #[vQ t.v, vI 0, vI t.id.toNat]) (Yl.build (vs := [(0, vQ t.v), (1, vI 0), (2, vI t.id.toNat)]) rfl (by kernel_rfl) (by kernel_rfl)) fun a HF => ?_
   refine fo HF 6 rfl rfl ?_
   refine qt HF HM (vs := [(0, .agg #[vQ t.v, vI 0, vI t.id.toNat])]) (cs := #[vQ t.v, vI 0, vI t.id.toNat]) rfl qhx (by decide) rfl (by kernel_rfl) rfl (by decide) ?_
   clear HF HM; intro a w43 g43 HF HM
   refine fo HF 7 rfl rfl ?_
   refine qw HF HM (i := 2) rfl qhx rfl rfl rfl (news := ([(⟨t.v, 0, t.id.toNat⟩ : Mb)].flatMap mbrL)) (HM.rdBlk (i := 0) (n := 1) (size := 3) rfl rfl) (qp5 _) (by omega) (by omega) rfl (by decide) ?_
   clear HF HM; intro a w44 A44 c44 HF HM hc44
   refine fp HF 1 8 [(7, .slice A44 (q.length + 1) c44)] fun a HF => ?_
   refine qb rfl ?_
   have hnA44 : q.length + 1 = (q ++ [(⟨t.v, 0, t.id.toNat⟩ : Mb)]).length := zd rfl
   replace HM := HM.reRow (i := 2) (ys := (q ++ [(⟨t.v, 0, t.id.toNat⟩ : Mb)]).flatMap mbrL) rfl hnA44 (List.flatMap_append.symm)
   rw [hnA44] at hc44
   replace HF := HF.as (t := 7) (u := .slice A44 ((q ++ [(⟨t.v, 0, t.id.toNat⟩ : Mb)]).length) c44) rfl (by rw [hnA44])
   replace HF := HF.as (t := 44) (u := .slice A44 ((q ++ [(⟨t.v, 0, t.id.toNat⟩ : Mb)]).length) c44) rfl (by rw [hnA44])
   refine qa ?_
   refine fp HF 2 0 [(17, vI (IntKind.i64.wrap ((i : Int) + 1)))] fun a HF => ?_
   replace HF := HF.sp 17 (vI (i + 1 : Nat)) rfl (qi (by omega) (by omega))
   refine fp HF 1 2 [(8, vI (i + 1 : Nat))] fun a HF => ?_
   refine qb rfl ?_
   exact ⟨_, (by omega), i + 1, (q ++ [(⟨t.v, 0, t.id.toNat⟩ : Mb)]), A44, c44, by omega, hq2, by rw [List.length_append, show [(⟨t.v, 0, t.id.toNat⟩ : Mb)].length = 1 from rfl]; omega, hc44, rfl, HF.sub (by kernel_rfl), HM.picks [2, 3] (by decide) rfl⟩
  have hq2 : q = (x.ts.take (i + 1)).filterMap (tkM · g c) := by rw [qab Tk.zero hi15, ← hq, ht, tkM, if_neg (by rw [hb36]; decide)]; simp
  refine qc HF rfl (wp_skip (qa ?_))
  refine fp HF 2 0 [(17, vI (IntKind.i64.wrap ((i : Int) + 1)))] fun a HF => ?_
  replace HF := HF.sp 17 (vI (i + 1 : Nat)) rfl (qi (by omega) (by omega))
  refine fp HF 1 2 [(8, vI (i + 1 : Nat))] fun a HF => ?_
  refine qb rfl ?_
  exact ⟨_, (by omega), i + 1, q, Ao, co, by omega, hq2, by omega, hco, rfl, HF.sub (by kernel_rfl), HM.picks [1, 2] (by decide) rfl⟩
 have hd15 := of_decide_eq_false hb15
 rw [List.take_of_length_le (by omega : x.ts.length ≤ i)] at hq
 refine qc HF rfl (wp_exit (wp_seq (wp_seq (qa ?_))))
 refine fp HF 1 0 [(10, vI 1)] fun a HF => ?_
 refine qb rfl (wp_block ?_)
 refine qo (fun mS aS wS => ∃ (u : Nat) (q : List Mb) (Ao : Option Addr) (co : Nat), (1 ≤ u) ∧ (u ≤ x.rs.length) ∧ (q = x.ts.filterMap (tkM · g c) ++ ((((List.range x.rs.length).drop (g + 1)).take (u - (g + 1))).filterMap (grpM x.sta c (fun u => memS x.sta u c) g))) ∧ (q.length ≤ x.ts.length + u) ∧ (q.length ≤ co) ∧ mS = x.rs.length - u ∧ Fr aS 84 [] [(10, vI u), (15, .bool false), (8, vI i), (7, .slice Ao q.length co), (6, .slice none 0 0), (3, vP g3 0), (1, vI g), (2, vI c)] ∧ Mem w wS [.row (.slice Ao q.length co) q.length (q.flatMap mbrL) 173 3, .blk g3 x.cells 30]) (m := x.rs.length - 1) ⟨1, q, Ao, co, Nat.le_refl _, by omega, by rw [hq, show 1 - (g + 1) = 0 by omega]; simp, by omega, hco, rfl, HF.sub (by kernel_rfl), HM.picks [0, 1] (by decide) rfl⟩ ?_
 clear HF HM; rintro mS a w_ ⟨u, q, Ao, co, hgh, hh, hq, hql, hco, rfl, HF, HM⟩
 refine wp_seq (wp_seq (qa ?_))
 refine fp HF 2 0 [(46, vP g3 6), (45, vI u)] fun a HF => ?_
 refine fy HF HM 2 rfl rfl rfl (v := .slice x.sA x.rs.length x.sc) (Yl.qf rfl rfl (by kernel_rfl) (fun _ h => h.cell (i := 1) rfl (rfl))) fun a HF => ?_
 refine fy HF HM 3 rfl rfl rfl (Yl.len rfl rfl (by kernel_rfl)) fun a HF => ?_
 refine fp HF 1 4 [(49, .bool (decide ((u : Int) < (x.rs.length : Int))))] fun a HF => ?_
 refine qb rfl ?_
 rcases HF.tf 49 rfl with ⟨hb49, HF⟩ | ⟨hb49, HF⟩
 ·
  have hd49 := of_decide_eq_true hb49
  have hh60 : u < x.rs.length := by omega
  refine qd HF rfl (wp_skip (wp_seq (wp_block (wp_seq (qa ?_)))))
  refine fp HF 2 0 [(53, vP g3 2)] fun a HF => ?_
  refine fy HF HM 2 rfl rfl rfl (v := .slice x.gA x.gs.length x.gc) (Yl.qf rfl rfl (by kernel_rfl) (fun _ h => h.cell (i := 1) rfl (rfl))) fun a HF => ?_
  refine fp HF 1 3 [(55, vI u)] fun a HF => ?_
  obtain ⟨gq2, oq2, hq2, _⟩ := Rd.qp hx.g (Nat.lt_of_le_of_lt (Nat.zero_le _) (show u < x.gs.length from by omega)) (by decide)
  have hrq2 := hx.g; rw [hq2] at hrq2
  replace HF := HF.as (t := 54) (u := .slice (some ⟨gq2, oq2, none⟩) x.gs.length x.gc) rfl (by rw [hq2]; try rfl)
  refine fy HF HM 4 rfl rfl rfl (v := vP gq2 (oq2 + u * 2)) (Yl.ix gq2 oq2 u 2 rfl rfl rfl) fun a HF => ?_
  refine fp HF 1 5 [(57, vP gq2 (oq2 + u * 2))] fun a HF => ?_
  refine fy HF HM 6 rfl rfl rfl (v := vI ((x.gs.getD u Gr.zero).parent)) (Yl.qf rfl rfl (by kernel_rfl) (fun _ h => (by have := (h.old hrq2).partAt zk (k := u) (j := 0) (x := (x.gs.getD u Gr.zero)) ((getD_at Gr.zero (by omega))) rfl; simpa using this))) fun a HF => ?_
  refine fp HF 3 7 [(61, .bool (((x.gs.getD u Gr.zero).parent : Int) == (g : Int)))] fun a HF => ?_
  rcases HF.tf 61 rfl with ⟨hb61, HF⟩ | ⟨hb61, HF⟩
  ·
   have hd61 := eq_of_beq hb61
   have hpu := qju ((qe6 hgs).2.2.2 u (by omega)) (by omega)
   unfold ParB at hpu
   have hgst := qhk (f := grpM x.sta c (fun u => memS x.sta u c) g) (show g + 1 ≤ u by omega) hh60
   have hml := qhw x u c
   refine fy HF HM 10 rfl rfl rfl (v := .agg x.cells) (Yl.qr rfl rfl si_st rfl (fun _ h => qe (h.blk (i := 1) rfl))) fun a HF => ?_
   replace HF := HF.sp 62 (.agg x.cells) rfl (rfl)
   refine fp HF 2 11 [(64, vI c), (63, vI u)] fun a HF => ?_
   refine fo HF 13 rfl rfl ?_
   refine e_cl HF [.agg x.cells, vI u, vI c] rfl rfl (ih u (by omega) (by omega) _ (hx.old HM)) ?_
   rintro _ w65 ⟨⟨A65, c65, rfl, ho, hc65⟩, hbw⟩
   refine ⟨_, rfl, ?_⟩
   replace HM := HM.callRow hbw ho
   clear HF; intro a HF
   refine fy HF HM 14 rfl rfl rfl (Yl.len rfl rfl (by kernel_rfl)) fun a HF => ?_
   refine fp HF 2 15 [(68, .bool (decide ((((memS x.sta u c).length : Nat) : Int) > (0 : Int))))] fun a HF => ?_
   refine qb rfl ?_
   rcases HF.tf 68 rfl with ⟨hb68, HF⟩ | ⟨hb68, HF⟩
   ·
    have hd68 := of_decide_eq_true hb68
    obtain ⟨y, hy⟩ : ∃ z, x.rs.getD u Rw.zero = z := ⟨_, rfl⟩
    have hyr : Rd w w.heap.size 3 y.A y.l.length (y.l.flatMap spL) := by rw [← hy]; exact hx.row hh60
    have hyl : (y.l.length : Int) = x.cpus := by rw [← hy]; exact (qeq hh60 (hsh.row u hh60)).1
    rw [qlo hh60 (by omega) (fun e => by rw [e] at hd68; exact absurd hd68 (by decide)), hy] at hgst
    refine qd HF rfl (qa ?_)
    refine fp HF 2 0 [(70, vP g3 6), (69, .slice Ao q.length co)] fun a HF => ?_
    refine fy HF HM 2 rfl rfl rfl (v := .slice x.sA x.rs.length x.sc) (Yl.qf rfl rfl (by kernel_rfl) (fun _ h => h.cell (i := 2) rfl (rfl))) fun a HF => ?_
    refine fp HF 1 3 [(72, vI u)] fun a HF => ?_
    obtain ⟨gq3, oq3, hq3, _⟩ := Rd.qp hx.s (Nat.lt_of_le_of_lt (Nat.zero_le _) (show u < x.rs.length from by omega)) (by decide)
    have hrq3 := hx.s; rw [hq3] at hrq3
    replace HF := HF.as (t := 71) (u := .slice (some ⟨gq3, oq3, none⟩) x.rs.length x.sc) rfl (by rw [hq3]; try rfl)
    refine fy HF HM 4 rfl rfl rfl (v := vP gq3 (oq3 + u * 1)) (Yl.ix gq3 oq3 u 1 rfl rfl rfl) fun a HF => ?_
    refine fy HF HM 5 rfl rfl rfl (v := .slice ((x.rs.getD u Rw.zero).A) ((x.rs.getD u Rw.zero).l.length) ((x.rs.getD u Rw.zero).c)) (Yl.qf rfl rfl (by kernel_rfl) (fun _ h => (h.old hrq3).q7 (k := u) (qz (F := Rw.val) (k := u) (x := (x.rs.getD u Rw.zero)) ((getD_at Rw.zero (by omega)))))) fun a HF => ?_
    replace HF := HF.sp 74 (.slice y.A y.l.length y.c) rfl (by rw [hy])
    refine fp HF 1 6 [(75, vI c)] fun a HF => ?_
    obtain ⟨gq4, oq4, hq4, _⟩ := Rd.qp hyr (Nat.lt_of_le_of_lt (Nat.zero_le _) (show c < y.l.length from by omega)) (by decide)
    have hrq4 := hyr; rw [hq4] at hrq4
    replace HF := HF.as (t := 74) (u := .slice (some ⟨gq4, oq4, none⟩) y.l.length y.c) rfl (by rw [hq4]; try rfl)
    refine fy HF HM 7 rfl rfl rfl (v := vP gq4 (oq4 + c * 3)) (Yl.ix gq4 oq4 c 3 rfl rfl rfl) fun a HF => ?_
    refine fp HF 1 8 [(77, vP gq4 (oq4 + c * 3))] fun a HF => ?_
    refine fy HF HM 9 rfl rfl rfl (v := vQ ((y.l.getD c Sp.zero).v)) (Yl.qf rfl rfl (by kernel_rfl) (fun _ h => (by have := (h.old hrq4).partAt zr (k := c) (j := 0) (x := (y.l.getD c Sp.zero)) ((getD_at Sp.zero (by omega))) rfl; simpa using this))) fun a HF => ?_
    refine fp HF 1 10 [(79, vI u)] fun a HF => ?_
    refine fy HF HM 11 rfl rfl rfl (v := .agg #[vQ ((y.l.getD c Sp.zero).v), vI 1, vI u]) (Yl.build (vs := [(0, vQ ((y.l.getD c Sp.zero).v)), (1, vI 1), (2, vI u)]) rfl (by kernel_rfl) (by kernel_rfl)) fun a HF => ?_
    refine fo HF 12 rfl rfl ?_
    refine qt HF HM (vs := [(0, .agg #[vQ ((y.l.getD c Sp.zero).v), vI 1, vI u])]) (cs := #[vQ ((y.l.getD c Sp.zero).v), vI 1, vI u]) rfl qhx (by decide) rfl (by kernel_rfl) rfl (by decide) ?_
    clear HF HM; intro a w81 g81 HF HM
    refine fo HF 13 rfl rfl ?_
    refine qw HF HM (i := 2) rfl qhx rfl rfl rfl (news := ([(⟨(y.l.getD c Sp.zero).v, 1, u⟩ : Mb)].flatMap mbrL)) (HM.rdBlk (i := 0) (n := 1) (size := 3) rfl rfl) (qp5 _) (by omega) (by omega) rfl (by decide) ?_
    clear HF HM; intro a w82 A82 c82 HF HM hc82
    refine fp HF 1 14 [(7, .slice A82 (q.length + 1) c82)] fun a HF => ?_
    refine qb rfl ?_
    have hnA82 : q.length + 1 = (q ++ [(⟨(y.l.getD c Sp.zero).v, 1, u⟩ : Mb)]).length := zd rfl
    replace HM := HM.reRow (i := 2) (ys := (q ++ [(⟨(y.l.getD c Sp.zero).v, 1, u⟩ : Mb)]).flatMap mbrL) rfl hnA82 (List.flatMap_append.symm)
    rw [hnA82] at hc82
    replace HF := HF.as (t := 7) (u := .slice A82 ((q ++ [(⟨(y.l.getD c Sp.zero).v, 1, u⟩ : Mb)]).length) c82) rfl (by rw [hnA82])
    replace HF := HF.as (t := 82) (u := .slice A82 ((q ++ [(⟨(y.l.getD c Sp.zero).v, 1, u⟩ : Mb)]).length) c82) rfl (by rw [hnA82])
    refine qa ?_
    refine fp HF 2 0 [(51, vI (IntKind.i64.wrap ((u : Int) + 1)))] fun a HF => ?_
    replace HF := HF.sp 51 (vI (u + 1 : Nat)) rfl (qi (by omega) (by omega))
    refine fp HF 1 2 [(10, vI (u + 1 : Nat))] fun a HF => ?_
    refine qb rfl ?_
    replace HF := HF.to [(10, vI (u + 1 : Nat)), (82, .slice A82 ((q ++ [(⟨(y.l.getD c Sp.zero).v, 1, u⟩ : Mb)]).length) c82), (7, .slice A82 ((q ++ [(⟨(y.l.getD c Sp.zero).v, 1, u⟩ : Mb)]).length) c82), (68, .bool true), (49, .bool true), (15, .bool false), (8, vI i), (6, .slice none 0 0), (3, vP g3 0), (1, vI g), (2, vI c)]
    exact ⟨_, (by omega), u + 1, (q ++ [(⟨(y.l.getD c Sp.zero).v, 1, u⟩ : Mb)]), A82, c82, by omega, by omega, by rw [hgst, hq, List.append_assoc]; rfl, by rw [List.length_append, show [(⟨(y.l.getD c Sp.zero).v, 1, u⟩ : Mb)].length = 1 from rfl]; omega, hc82, rfl, HF.sub (by kernel_rfl), HM.picks [2, 3] (by decide) rfl⟩
   have hd68 := of_decide_eq_false hb68
   rw [qiy (List.length_eq_zero_iff.1 (by omega))] at hgst
   refine qc HF rfl (wp_skip (qa ?_))
   refine fp HF 2 0 [(51, vI (IntKind.i64.wrap ((u : Int) + 1)))] fun a HF => ?_
   replace HF := HF.sp 51 (vI (u + 1 : Nat)) rfl (qi (by omega) (by omega))
   refine fp HF 1 2 [(10, vI (u + 1 : Nat))] fun a HF => ?_
   refine qb rfl ?_
   exact ⟨_, (by omega), u + 1, q, Ao, co, by omega, by omega, by rw [hgst, hq]; try simp, by omega, hco, rfl, HF.sub (by kernel_rfl), HM.picks [1, 2] (by decide) rfl⟩
  have hd61 := ne_of_beq_false hb61
  have hgst := qsj (g := g) (f := grpM x.sta c (fun u => memS x.sta u c) g) hh60 (fun _ => qix (by omega))
  refine fp HF 7 10 [(68, .bool false)] fun a HF => ?_
  refine qb rfl (qc HF rfl (wp_skip (qa ?_)))
  refine fp HF 2 0 [(51, vI (IntKind.i64.wrap ((u : Int) + 1)))] fun a HF => ?_
  replace HF := HF.sp 51 (vI (u + 1 : Nat)) rfl (qi (by omega) (by omega))
  refine fp HF 1 2 [(10, vI (u + 1 : Nat))] fun a HF => ?_
  refine qb rfl ?_
  exact ⟨_, (by omega), u + 1, q, Ao, co, by omega, by omega, by rw [hgst, hq]; try simp, by omega, hco, rfl, HF.sub (by kernel_rfl), HM.picks [0, 1] (by decide) rfl⟩
 have hd49 := of_decide_eq_false hb49
 have hqm : q = memS x.sta g c := by rw [hq, qhd, qat, show u = x.rs.length by omega, qpf]; rfl
 refine qc HF rfl (wp_exit (wp_seq (qa ?_)))
 refine fp HF 2 0 [(6, .slice Ao q.length co)] fun a HF => ?_
 refine qb rfl (wp_ret ?_)
 exact ret1 rfl HF (.tmp HF rfl) (qqc hqm (HM.own (i := 0) rfl) hco HM.below)
theorem qjc (x : Stm) (hok : x.sta.Ok) (hf : StFew x) (hsh : ShAt x) (c : Nat) (hc : (c : Int) < x.cpus) : ∀ (n g : Nat), x.rs.length - g ≤ n → g < x.rs.length → qkm x c g := by
 intro n
 induction n with
 | zero => intro g h1 h2; omega
 | succ n ih => intro g h1 h2; exact qm8 x hok hf hsh c hc g h2 fun h h3 h4 => ih h (by omega) h4
theorem qg0 (A : Option Addr) (c : Nat) (l : List Mb) (w : World) (hr : Rd w w.heap.size 3 A l.length (l.flatMap mbrL)) (h0 : 0 < l.length) (hn : l.length ≤ 2000000) :
    Calls Tryz.prog 115 #[.slice A l.length c] w (Is w (.agg (qc1 l).rcells)) := by
 refine qg (vs := [.slice A l.length c]) Tryz.func115 rfl rfl (by kernel_rfl) (σ0 := [(0, .slice A l.length c)]) rfl ?_
 intro a HF
 have HM := Mem.start w
 refine wp_seq (qa ?_)
 refine fo HF 0 rfl rfl ?_
 refine qs HF HM (cs := #[vQ 0, vI 0, vI 0]) rfl (by kernel_rfl) rfl (by decide) ?_
 clear HF HM; intro a w2 g2 HF HM
 refine qb rfl (wp_seq (qa ?_))
 refine fp HF 1 0 [(5, .slice A l.length c)] fun a HF => ?_
 obtain ⟨gA, oA, rfl, _⟩ := hr.qp (Nat.lt_of_le_of_lt (Nat.zero_le _) (show 0 < l.length from by omega)) (by decide)
 refine fy HF HM 1 rfl rfl rfl (v := vP gA oA) (Yl.indexAddr (ad := ⟨gA, oA, none⟩) (y := 0) (sz := 3) rfl rfl rfl (by omega) (by kernel_rfl)) fun a HF => ?_
 refine fy HF HM 2 rfl rfl rfl (v := .agg ((l.getD 0 Mb.zero).rcells)) (Yl.qr rfl rfl qcb rfl (fun _ h => (h.old hr).q6 qhv ((getD_at Mb.zero (by omega))))) fun a HF => ?_
 refine fo HF 3 rfl rfl ?_
 refine qs HF HM (cs := #[vQ 0, vI 0, vI 0]) rfl (by kernel_rfl) rfl (by decide) ?_
 clear HF HM; intro a w3 g3 HF HM
 refine fo HF 4 rfl rfl ?_
 refine e_sa HF HM 0 rfl rfl rfl rfl rfl qcb rfl rfl (qki (l.getD 0 Mb.zero)) ?_
 clear HM; intro w1_4 HM
 refine qb rfl ?_
 replace HM := HM.asBlk (i := 0) (ds := (bestU l 1).rcells) rfl (by rw [qp9])
 refine wp_seq (wp_seq (qa ?_))
 refine fp HF 1 0 [(4, vI 1)] fun a HF => ?_
 refine qb rfl (wp_block ?_)
 refine qo (fun mS aS wS => ∃ (k : Nat), (1 ≤ k) ∧ (k ≤ l.length) ∧ mS = l.length - k ∧ Fr aS 25 [] [(4, vI k), (3, vP g3 0), (2, vP g2 0), (0, .slice (some ⟨gA, oA, none⟩) l.length c)] ∧ Mem w wS [.blk g3 ((bestU l k).rcells) 173, .blk g2 #[vQ 0, vI 0, vI 0] 173]) (m := l.length - 1) ⟨1, Nat.le_refl _, by omega, rfl, HF.sub (by kernel_rfl), HM.picks [0, 1] (by decide) rfl⟩ ?_
 clear HF HM; rintro mS a w_ ⟨k, hk1, hk, rfl, HF, HM⟩
 refine wp_seq (wp_seq (qa ?_))
 refine fp HF 2 0 [(9, .slice (some ⟨gA, oA, none⟩) l.length c), (8, vI k)] fun a HF => ?_
 refine fy HF HM 2 rfl rfl rfl (Yl.len rfl rfl (by kernel_rfl)) fun a HF => ?_
 refine fp HF 1 3 [(11, .bool (decide ((k : Int) < (l.length : Int))))] fun a HF => ?_
 refine qb rfl ?_
 rcases HF.tf 11 rfl with ⟨hb11, HF⟩ | ⟨hb11, HF⟩
 ·
  have hd11 := of_decide_eq_true hb11
  have hk11 : k < l.length := by omega
  refine qd HF rfl (wp_skip (wp_seq (wp_block (wp_seq ?_))))
  refine zc HM [.blk g3 ((bestU l k).rcells) 173, .blk g2 #[vQ 0, vI 0, vI 0] 173] [0, 1] [] fun HM HS => ?_
  refine ap HF (fun _ => HS) [0, 1] #[true, true, false, false, false, false] [(15, vI k), (14, .slice (some ⟨gA, oA, none⟩) l.length c)] fun a HF => ?_
  refine ay HF HS 2 rfl rfl rfl (v := vP gA (oA + k * 3)) (Yl.ix gA oA k 3 rfl rfl rfl) fun a HF => ?_
  refine ay HF HS 3 rfl rfl rfl (v := .agg ((l.getD k Mb.zero).rcells)) (Yl.qr rfl rfl qcb rfl (fun _ h => (h.old hr).q6 qhv ((getD_at Mb.zero hk11)))) fun a HF => ?_
  refine ay HF HS 4 rfl rfl rfl (v := .agg ((bestU l k).rcells)) (Yl.qr rfl rfl qcb rfl (fun _ h => qe (h.blk (i := 0) rfl))) fun a HF => ?_
  refine qm [5] (by kernel_rfl) rfl ?_
  refine all_cons ?_ all_nil
  refine qk HF (i := 5) rfl rfl ?_
  refine e_is HF HM [.agg ((l.getD k Mb.zero).rcells), .agg ((bestU l k).rcells)] (.bool (Mb.lt (l.getD k Mb.zero) (bestU l k))) rfl rfl (qkk (l.getD k Mb.zero) (bestU l k) _) fun w19 hbw HM a HF => ?_
  refine keepS (HM.picks [0, 1] (by decide) rfl) (fun HS => ?_)
  refine qq (by kernel_rfl) ?_
  rcases HF.tf 19 rfl with ⟨hb19, HF⟩ | ⟨hb19, HF⟩
  ·
   refine qd HF rfl (qa ?_)
   refine fp HF 2 0 [(21, vI k), (20, .slice (some ⟨gA, oA, none⟩) l.length c)] fun a HF => ?_
   refine fy HF HM 2 rfl rfl rfl (v := vP gA (oA + k * 3)) (Yl.ix gA oA k 3 rfl rfl rfl) fun a HF => ?_
   refine fy HF HM 3 rfl rfl rfl (v := .agg ((l.getD k Mb.zero).rcells)) (Yl.qr rfl rfl qcb rfl (fun _ h => (h.old hr).q6 qhv ((getD_at Mb.zero hk11)))) fun a HF => ?_
   refine fo HF 4 rfl rfl ?_
   refine e_sa HF HM 0 rfl rfl rfl rfl rfl qcb rfl rfl (qki (l.getD k Mb.zero)) ?_
   clear HM; intro w6_4 HM
   refine qb rfl ?_
   replace HM := HM.asBlk (i := 0) (ds := (bestU l (k + 1)).rcells) rfl (by rw [qqa hk1 hk11 hb19])
   refine qa ?_
   refine fp HF 2 0 [(13, vI (IntKind.i64.wrap ((k : Int) + 1)))] fun a HF => ?_
   replace HF := HF.sp 13 (vI (k + 1 : Nat)) rfl (qi (by omega) (by omega))
   refine fp HF 1 2 [(4, vI (k + 1 : Nat))] fun a HF => ?_
   refine qb rfl ?_
   exact ⟨_, (by omega), k + 1, by omega, by omega, rfl, HF.sub (by kernel_rfl), HM.picks [0, 1] (by decide) rfl⟩
  replace HM := HM.asBlk (i := 0) (ds := (bestU l (k + 1)).rcells) rfl (by rw [qsk hk1 hk11 hb19])
  refine qc HF rfl (wp_skip (qa ?_))
  refine fp HF 2 0 [(13, vI (IntKind.i64.wrap ((k : Int) + 1)))] fun a HF => ?_
  replace HF := HF.sp 13 (vI (k + 1 : Nat)) rfl (qi (by omega) (by omega))
  refine fp HF 1 2 [(4, vI (k + 1 : Nat))] fun a HF => ?_
  refine qb rfl ?_
  exact ⟨_, (by omega), k + 1, by omega, by omega, rfl, HF.sub (by kernel_rfl), HM.picks [0, 1] (by decide) rfl⟩
 have hd11 := of_decide_eq_false hb11
 refine qc HF rfl (wp_exit (wp_seq (qa ?_)))
 refine fy HF HM 0 rfl rfl rfl (v := .agg ((bestU l k).rcells)) (Yl.qr rfl rfl qcb rfl (fun _ h => qe (h.blk (i := 0) rfl))) fun a HF => ?_
 refine fo HF 1 rfl rfl ?_
 refine e_sa HF HM 1 rfl rfl rfl rfl rfl qcb rfl rfl (qki (bestU l k)) ?_
 clear HM; intro w7_1 HM
 refine qb rfl (wp_ret ?_)
 exact ret1 rfl HF (.cellS (i := 1) HF HM rfl rfl qcb rfl) (⟨by rw [qqb (by omega)], HM.below⟩)
theorem qm9 (x : Stm) (hok : x.sta.Ok) (hf : StFew x) (w : World) (hx : StRd w x) :
    Calls Tryz.prog 89 #[.agg x.cells] w (Is w (.bool (qak x.sta))) := by
 have hfs_ := hf.s; have hft := hf.t; have hfg := hf.g; have hfl := hf.l; have hfu := hf.u
 refine qg (vs := [.agg x.cells]) Tryz.func89 rfl rfl (by kernel_rfl) (σ0 := [(0, .agg x.cells)]) rfl ?_
 intro a HF
 have HM := Mem.start w
 refine wp_seq (qa ?_)
 refine fo HF 0 rfl rfl ?_
 refine e_box HF HM (cs := x.cells) rfl rfl rfl rfl (by decide) ?_
 clear HF HM; intro a w1 g1 HF HM
 refine fp HF 1 1 [(2, .bool false)] fun a HF => ?_
 refine qb rfl (wp_seq (wp_seq (qa ?_)))
 refine fy HF HM 0 rfl rfl rfl (v := .agg x.cells) (Yl.qr rfl rfl si_st rfl (fun _ h => qe (h.blk (i := 0) rfl))) fun a HF => ?_
 replace HF := HF.sp 8 (.agg x.cells) rfl (rfl)
 refine fo HF 1 rfl rfl ?_
 refine e_is HF HM [.agg x.cells] (.bool (shpS x.sta)) rfl rfl (qkl x hok hf _ (hx.old HM)) fun w9 hbw HM a HF => ?_
 refine fp HF 2 2 [(11, .bool (!(shpS x.sta)))] fun a HF => ?_
 rcases HF.tf 11 rfl with ⟨hb11, HF⟩ | ⟨hb11, HF⟩
 ·
  refine fp HF 4 4 [(15, .bool true)] fun a HF => ?_
  refine qb rfl (qd HF rfl (wp_seq (qa ?_)))
  refine fp HF 1 0 [(2, .bool false)] fun a HF => ?_
  refine qb rfl (wp_ret ?_)
  exact ret1 rfl HF (.tmp HF rfl) (is_as (r_no0 (by rw [qft, show shpS x.sta = false by simpa using hb11]; rfl)).symm HM.below)
 have hsp : shpS x.sta = true := by simpa using hb11
 have hsp0 := qv4 hsp
 obtain ⟨hc1, hc2, _, _⟩ := qcq hsp0.cfg
 refine fy HF HM 4 rfl rfl rfl (v := .agg x.cells) (Yl.qr rfl rfl si_st rfl (fun _ h => qe (h.blk (i := 0) rfl))) fun a HF => ?_
 replace HF := HF.sp 12 (.agg x.cells) rfl (rfl)
 refine fo HF 5 rfl rfl ?_
 refine e_is HF HM [.agg x.cells] (.bool (allN x.ts.length (tkAt x.sta))) rfl rfl (qm7 x hok hf _ (hx.old HM) ⟨hc1, hc2⟩ hsp0.rs) fun w13 hbw HM a HF => ?_
 refine fp HF 2 6 [(15, .bool (!(allN x.ts.length (tkAt x.sta))))] fun a HF => ?_
 refine qb rfl ?_
 rcases HF.tf 15 rfl with ⟨hb15, HF⟩ | ⟨hb15, HF⟩
 ·
  refine qd HF rfl (wp_seq (qa ?_))
  refine fp HF 1 0 [(2, .bool false)] fun a HF => ?_
  refine qb rfl (wp_ret ?_)
  exact ret1 rfl HF (.tmp HF rfl) (is_as (r_no0 (by rw [qft, show allN x.ts.length (tkAt x.sta) = false by simpa using hb15, Bool.and_false])).symm HM.below)
 have hsd : zl x.sta = true := by rw [qft, hsp, show allN x.ts.length (tkAt x.sta) = true by simpa using hb15]; rfl
 have hsh := sh_at hsd
 have hcul := hsh.cu
 refine qc HF rfl (wp_skip (wp_seq (wp_seq (qa ?_))))
 refine fp HF 1 0 [(3, vI 0)] fun a HF => ?_
 refine qb rfl (wp_block ?_)
 refine qo (fun mS aS wS => ∃ (c : Nat), (c ≤ x.cu.length) ∧ (UpTo c fun c => curOk x.sta c && allN x.rs.length fun g => lowS x.sta g c) ∧ mS = x.cu.length - c ∧ Fr aS 83 [] [(3, vI c), (15, .bool false), (2, .bool false), (1, vP g1 0)] ∧ Mem w wS [.blk g1 x.cells 30]) (m := x.cu.length - 0) ⟨0, Nat.zero_le _, UpTo.zero, rfl, HF.sub (by kernel_rfl), HM.picks [0] (by decide) rfl⟩ ?_
 clear HF HM; rintro mS a w_ ⟨c, hc, hu, rfl, HF, HM⟩
 refine wp_seq (wp_seq (qa ?_))
 refine fp HF 3 0 [(18, vP g1 0), (16, vI c)] fun a HF => ?_
 refine fy HF HM 3 rfl rfl rfl (v := vI x.cpus) (Yl.qf rfl rfl (by kernel_rfl) (fun _ h => h.cell (i := 0) rfl (rfl))) fun a HF => ?_
 refine fp HF 1 4 [(20, .bool (decide ((c : Int) < (x.cpus : Int))))] fun a HF => ?_
 refine qb rfl ?_
 rcases HF.tf 20 rfl with ⟨hb20, HF⟩ | ⟨hb20, HF⟩
 ·
  have hd20 := of_decide_eq_true hb20
  have hc21 : c < x.cu.length := by omega
  obtain ⟨id, hid⟩ : ∃ z, (x.cu.getD c 0) = z := ⟨_, rfl⟩
  refine qd HF rfl (wp_skip (wp_seq (wp_block (wp_seq (wp_seq (qa ?_))))))
  refine fp HF 1 0 [(23, vP g1 4)] fun a HF => ?_
  refine fy HF HM 1 rfl rfl rfl (v := .slice x.uA x.cu.length x.uc) (Yl.qf rfl rfl (by kernel_rfl) (fun _ h => h.cell (i := 0) rfl (rfl))) fun a HF => ?_
  refine fp HF 1 2 [(25, vI c)] fun a HF => ?_
  obtain ⟨gq1, oq1, hq1, _⟩ := Rd.qp hx.u (Nat.lt_of_le_of_lt (Nat.zero_le _) (show c < x.cu.length from by omega)) (by decide)
  have hrq1 := hx.u; rw [hq1] at hrq1
  replace HF := HF.as (t := 24) (u := .slice (some ⟨gq1, oq1, none⟩) x.cu.length x.uc) rfl (by rw [hq1]; try rfl)
  refine fy HF HM 3 rfl rfl rfl (v := vP gq1 (oq1 + c * 1)) (Yl.ix gq1 oq1 c 1 rfl rfl rfl) fun a HF => ?_
  refine fy HF HM 4 rfl rfl rfl (v := vI (x.cu.getD c 0)) (Yl.qf rfl rfl (by kernel_rfl) (fun _ h => (h.old hrq1).q7 (k := c) (qz (F := I64i) (k := c) (x := (x.cu.getD c 0)) ((getD_at 0 (by omega)))))) fun a HF => ?_
  replace HF := HF.sp 27 (vI id) rfl (by rw [hid])
  refine fp HF 1 5 [(4, vI id)] fun a HF => ?_
  refine qb rfl (wp_seq (qa ?_))
  refine fp HF 2 0 [(29, .bool ((id : Int) != (0 : Int)))] fun a HF => ?_
  refine qb rfl ?_
  rcases HF.tf 29 rfl with ⟨hb29, HF⟩ | ⟨hb29, HF⟩
  ·
   have hd29 := bne_iff_ne.1 hb29
   refine qd HF rfl (wp_seq (qa ?_))
   refine fy HF HM 0 rfl rfl rfl (v := .agg x.cells) (Yl.qr rfl rfl si_st rfl (fun _ h => qe (h.blk (i := 0) rfl))) fun a HF => ?_
   replace HF := HF.sp 30 (.agg x.cells) rfl (rfl)
   refine fp HF 1 1 [(31, vI id)] fun a HF => ?_
   refine fo HF 2 rfl rfl ?_
   refine e_is HF HM [.agg x.cells, vI id] (vI (fidx x.ts id)) rfl rfl (qqh x id _ (hx.old HM) hf.t) fun w32 hbw HM a HF => ?_
   refine fp HF 1 3 [(5, vI (fidx x.ts id))] fun a HF => ?_
   refine qb rfl (wp_seq (qa ?_))
   refine fp HF 3 0 [(35, .bool (decide ((fidx x.ts id : Int) < (0 : Int))))] fun a HF => ?_
   rcases HF.tf 35 rfl with ⟨hb35, HF⟩ | ⟨hb35, HF⟩
   ·
    have hd35 := of_decide_eq_true hb35
    refine fp HF 18 3 [(53, .bool true)] fun a HF => ?_
    refine qb rfl (qd HF rfl (wp_seq (qa ?_)))
    refine fp HF 1 0 [(2, .bool false)] fun a HF => ?_
    refine qb rfl (wp_ret ?_)
    exact ret1 rfl HF (.tmp HF rfl) (is_as (r_no1 hc21 (qgk (by rw [hid]; omega) (by rw [hid]; exact qqd (by omega)))).symm HM.below)
   have hd35 := of_decide_eq_false hb35
   obtain ⟨i, hfi, hfs, hil, hiid⟩ := qlz (l := x.ts) (id := id) (by omega)
   refine fp HF 1 3 [(36, vP g1 5)] fun a HF => ?_
   refine fy HF HM 4 rfl rfl rfl (v := .slice x.tA x.ts.length x.tc) (Yl.qf rfl rfl (by kernel_rfl) (fun _ h => h.cell (i := 0) rfl (rfl))) fun a HF => ?_
   refine fp HF 1 5 [(38, vI (fidx x.ts id))] fun a HF => ?_
   replace HF := HF.sp 38 (vI i) rfl (by rw [hfi])
   obtain ⟨gq2, oq2, hq2, _⟩ := Rd.qp hx.t (Nat.lt_of_le_of_lt (Nat.zero_le _) (show i < x.ts.length from by omega)) (by decide)
   have hrq2 := hx.t; rw [hq2] at hrq2
   replace HF := HF.as (t := 37) (u := .slice (some ⟨gq2, oq2, none⟩) x.ts.length x.tc) rfl (by rw [hq2]; try rfl)
   refine fy HF HM 6 rfl rfl rfl (v := vP gq2 (oq2 + i * 8)) (Yl.ix gq2 oq2 i 8 rfl rfl rfl) fun a HF => ?_
   refine fp HF 1 7 [(40, vP gq2 (oq2 + i * 8 + 5))] fun a HF => ?_
   refine fy HF HM 8 rfl rfl rfl (v := .bool ((x.ts.getD i Tk.zero).ready)) (Yl.qf rfl rfl (by kernel_rfl) (fun _ h => (h.old hrq2).partAt zf (k := i) (j := 5) (x := (x.ts.getD i Tk.zero)) ((getD_at Tk.zero (by omega))) rfl)) fun a HF => ?_
   refine fp HF 3 9 [(44, .bool (!((x.ts.getD i Tk.zero).ready)))] fun a HF => ?_
   rcases HF.tf 44 rfl with ⟨hb44, HF⟩ | ⟨hb44, HF⟩
   ·
    refine fp HF 9 12 [(53, .bool true)] fun a HF => ?_
    refine qb rfl (qd HF rfl (wp_seq (qa ?_)))
    refine fp HF 1 0 [(2, .bool false)] fun a HF => ?_
    refine qb rfl (wp_ret ?_)
    exact ret1 rfl HF (.tmp HF rfl) (is_as (r_no1 hc21 (by rw [qdl (by rw [hid]; omega) (by rw [hid]; exact hfs), show (x.ts.getD i Tk.zero).ready = false by simpa using hb44, Bool.false_and])).symm HM.below)
   refine fp HF 1 12 [(45, vP g1 5)] fun a HF => ?_
   refine fy HF HM 13 rfl rfl rfl (v := .slice x.tA x.ts.length x.tc) (Yl.qf rfl rfl (by kernel_rfl) (fun _ h => h.cell (i := 0) rfl (rfl))) fun a HF => ?_
   refine fp HF 1 14 [(47, vI (fidx x.ts id))] fun a HF => ?_
   replace HF := HF.sp 47 (vI i) rfl (by rw [hfi])
   replace HF := HF.as (t := 46) (u := .slice (some ⟨gq2, oq2, none⟩) x.ts.length x.tc) rfl (by rw [hq2]; try rfl)
   refine fy HF HM 15 rfl rfl rfl (v := vP gq2 (oq2 + i * 8)) (Yl.ix gq2 oq2 i 8 rfl rfl rfl) fun a HF => ?_
   refine fp HF 1 16 [(49, vP gq2 (oq2 + i * 8 + 3))] fun a HF => ?_
   refine fy HF HM 17 rfl rfl rfl (v := vI ((x.ts.getD i Tk.zero).cpu)) (Yl.qf rfl rfl (by kernel_rfl) (fun _ h => (h.old hrq2).partAt zf (k := i) (j := 3) (x := (x.ts.getD i Tk.zero)) ((getD_at Tk.zero (by omega))) rfl)) fun a HF => ?_
   refine fp HF 3 18 [(53, .bool (((x.ts.getD i Tk.zero).cpu : Int) != (c : Int)))] fun a HF => ?_
   refine qb rfl ?_
   rcases HF.tf 53 rfl with ⟨hb53, HF⟩ | ⟨hb53, HF⟩
   ·
    have hd53 := bne_iff_ne.1 hb53
    refine qd HF rfl (wp_seq (qa ?_))
    refine fp HF 1 0 [(2, .bool false)] fun a HF => ?_
    refine qb rfl (wp_ret ?_)
    exact ret1 rfl HF (.tmp HF rfl) (is_as (r_no1 hc21 (by rw [qdl (by rw [hid]; omega) (by rw [hid]; exact hfs), decide_eq_false (by omega), Bool.and_false])).symm HM.below)
   have hd53 := bne_eq_false_iff_eq.1 hb53
   have hcu : curOk x.sta c = true := by rw [qdl (by rw [hid]; omega) (by rw [hid]; exact hfs), show (x.ts.getD i Tk.zero).ready = true by simpa using hb44, decide_eq_true (by omega)]; rfl
   refine qc HF rfl (wp_skip (wp_seq (qa ?_)))
   refine fp HF 1 0 [(6, vI 0)] fun a HF => ?_
   refine qb rfl (wp_block ?_)
   refine qo (fun mS aS wS => ∃ (g : Nat), (g ≤ x.rs.length) ∧ (UpTo g fun g => lowS x.sta g c) ∧ mS = x.rs.length - g ∧ Fr aS 83 [] [(6, vI g), (53, .bool false), (5, vI (fidx x.ts id)), (29, .bool true), (4, vI id), (20, .bool true), (3, vI c), (15, .bool false), (2, .bool false), (1, vP g1 0)] ∧ Mem w wS [.blk g1 x.cells 30]) (m := x.rs.length - 0) ⟨0, Nat.zero_le _, UpTo.zero, rfl, HF.sub (by kernel_rfl), HM.picks [0] (by decide) rfl⟩ ?_
   clear HF HM; rintro mS a w_ ⟨g, hg, hu2, rfl, HF, HM⟩
   refine wp_seq (wp_seq (qa ?_))
   refine fp HF 2 0 [(55, vP g1 6), (54, vI g)] fun a HF => ?_
   refine fy HF HM 2 rfl rfl rfl (v := .slice x.sA x.rs.length x.sc) (Yl.qf rfl rfl (by kernel_rfl) (fun _ h => h.cell (i := 0) rfl (rfl))) fun a HF => ?_
   refine fy HF HM 3 rfl rfl rfl (Yl.len rfl rfl (by kernel_rfl)) fun a HF => ?_
   refine fp HF 1 4 [(58, .bool (decide ((g : Int) < (x.rs.length : Int))))] fun a HF => ?_
   refine qb rfl ?_
   rcases HF.tf 58 rfl with ⟨hb58, HF⟩ | ⟨hb58, HF⟩
   ·
    have hd58 := of_decide_eq_true hb58
    have hg58 : g < x.rs.length := by omega
    have hml := qhw x g c
    obtain ⟨y, hy⟩ : ∃ z, x.rs.getD g Rw.zero = z := ⟨_, rfl⟩
    have hyr : Rd w w.heap.size 3 y.A y.l.length (y.l.flatMap spL) := by rw [← hy]; exact hx.row hg58
    have hyl : (y.l.length : Int) = x.cpus := by rw [← hy]; exact (qeq hg58 (hsh.row g hg58)).1
    obtain ⟨gq3, oq3, hq3, _⟩ := Rd.qp hx.s (Nat.lt_of_le_of_lt (Nat.zero_le _) (show g < x.rs.length from hg58)) (by decide)
    have hrq3 := hx.s; rw [hq3] at hrq3
    obtain ⟨gq4, oq4, hq4, _⟩ := Rd.qp hyr (Nat.lt_of_le_of_lt (Nat.zero_le _) (show c < y.l.length from (by omega : c < y.l.length))) (by decide)
    have hrq4 := hyr; rw [hq4] at hrq4
    refine qd HF rfl (wp_skip (wp_seq (wp_block (wp_seq (qa ?_)))))
    refine fy HF HM 0 rfl rfl rfl (v := .agg x.cells) (Yl.qr rfl rfl si_st rfl (fun _ h => qe (h.blk (i := 0) rfl))) fun a HF => ?_
    replace HF := HF.sp 61 (.agg x.cells) rfl (rfl)
    refine fp HF 2 1 [(63, vI c), (62, vI g)] fun a HF => ?_
    refine fo HF 3 rfl rfl ?_
    refine e_cl HF [.agg x.cells, vI g, vI c] rfl rfl (qjc x hok hf hsh c (by omega) _ g (Nat.le_refl _) hg58 _ (hx.old HM)) ?_
    rintro _ w64 ⟨⟨A64, c64, rfl, ho, hc64⟩, hbw⟩
    refine ⟨_, rfl, ?_⟩
    replace HM := HM.callRow hbw ho
    clear HF; intro a HF
    refine fp HF 1 4 [(7, .slice A64 ((memS x.sta g c).length) c64)] fun a HF => ?_
    refine qb rfl ?_
    refine qbe (fun aS wS => Fr aS 83 [] [(82, .bool (!lowS x.sta g c)), (7, .slice A64 ((memS x.sta g c).length) c64), (58, .bool true), (6, vI g), (53, .bool false), (5, vI (fidx x.ts id)), (29, .bool true), (4, vI id), (20, .bool true), (3, vI c), (15, .bool false), (2, .bool false), (1, vP g1 0)] ∧ Mem w wS [.row (.slice A64 ((memS x.sta g c).length) c64) ((memS x.sta g c).length) ((memS x.sta g c).flatMap mbrL) 173 3, .blk g1 x.cells 30]) ?_ ?_
    ·
     refine zc HM [.row (.slice A64 ((memS x.sta g c).length) c64) ((memS x.sta g c).length) ((memS x.sta g c).flatMap mbrL) 173 3, .blk g1 x.cells 30] [0, 1] [] fun HM HS => ?_
     refine ap HF (fun _ => HS) [0] #[true, false, false, false, false, false, false, false, false, false, false, false, false, false, false, false, false, false] [(65, .slice A64 ((memS x.sta g c).length) c64)] fun a HF => ?_
     refine ay HF HS 1 rfl rfl rfl (Yl.len rfl rfl (by kernel_rfl)) fun a HF => ?_
     refine ap HF (fun _ => HS) [2, 3] #[true, true, true, true, false, false, false, false, false, false, false, false, false, false, false, false, false, false] [(68, .bool (decide ((((memS x.sta g c).length : Nat) : Int) > (0 : Int))))] fun a HF => ?_
     rcases HF.tf 68 rfl with ⟨hb68, HF⟩ | ⟨hb68, HF⟩
     ·
      have hd68 := of_decide_eq_true hb68
      have hne : memS x.sta g c ≠ [] := fun e => by rw [e] at hd68; exact absurd hd68 (by decide)
      refine ap HF (fun _ => HS) [4, 7, 9, 12] #[true, true, true, true, true, false, false, true, false, true, false, false, true, false, false, false, false, false] [(77, vI c), (74, vI g), (72, vP g1 6), (69, .slice A64 ((memS x.sta g c).length) c64)] fun a HF => ?_
      refine ay HF HS 8 rfl rfl rfl (v := .slice x.sA x.rs.length x.sc) (Yl.qf rfl rfl (by kernel_rfl) (fun _ h => h.cell (i := 1) rfl (rfl))) fun a HF => ?_
      replace HF := HF.as (t := 73) (u := .slice (some ⟨gq3, oq3, none⟩) x.rs.length x.sc) rfl (by rw [hq3]; try rfl)
      refine ay HF HS 10 rfl rfl rfl (v := vP gq3 (oq3 + g * 1)) (Yl.ix gq3 oq3 g 1 rfl rfl rfl) fun a HF => ?_
      refine ay HF HS 11 rfl rfl rfl (v := .slice ((x.rs.getD g Rw.zero).A) ((x.rs.getD g Rw.zero).l.length) ((x.rs.getD g Rw.zero).c)) (Yl.qf rfl rfl (by kernel_rfl) (fun _ h => (h.old hrq3).q7 (k := g) (qz (F := Rw.val) (k := g) (x := (x.rs.getD g Rw.zero)) ((getD_at Rw.zero hg58))))) fun a HF => ?_
      replace HF := HF.sp 76 (.slice y.A y.l.length y.c) rfl (by rw [hy])
      replace HF := HF.as (t := 76) (u := .slice (some ⟨gq4, oq4, none⟩) y.l.length y.c) rfl (by rw [hq4]; try rfl)
      refine ay HF HS 13 rfl rfl rfl (v := vP gq4 (oq4 + c * 3)) (Yl.ix gq4 oq4 c 3 rfl rfl rfl) fun a HF => ?_
      refine ap HF (fun _ => HS) [14] #[true, true, true, true, true, false, false, true, true, true, true, true, true, true, true, false, false, false] [(79, vP gq4 (oq4 + c * 3 + 2))] fun a HF => ?_
      refine ay HF HS 15 rfl rfl rfl (v := vQ ((y.l.getD c Sp.zero).floor)) (Yl.qf rfl rfl (by kernel_rfl) (fun _ h => (h.old hrq4).partAt zr (k := c) (j := 2) (x := (y.l.getD c Sp.zero)) ((getD_at Sp.zero (by omega))) rfl)) fun a HF => ?_
      refine qm [5] (by kernel_rfl) rfl ?_
      refine all_cons ?_ all_nil
      refine qk HF (i := 5) rfl rfl ?_
      refine e_is HF HM [.slice A64 ((memS x.sta g c).length) c64] (.agg ((qc1 (memS x.sta g c)).rcells)) rfl rfl (qg0 A64 c64 (memS x.sta g c) _ (HM.rd (i := 0) rfl) (by omega) (by omega)) fun w70 hbw HM a HF => ?_
      refine keepS (HM.picks [0, 1] (by decide) rfl) (fun HS => ?_)
      refine ay HF HS 6 rfl rfl rfl (v := vQ ((qc1 (memS x.sta g c)).v)) (Yl.field rfl rfl (by kernel_rfl)) fun a HF => ?_
      refine ap HF (fun _ => HS) [16, 17] #[true, true, true, true, true, true, true, true, true, true, true, true, true, true, true, true, true, true] [(82, .bool (decide (((qc1 (memS x.sta g c)).v : Int) > ((y.l.getD c Sp.zero).floor : Int))))] fun a HF => ?_
      refine qq (by kernel_rfl) ?_
      have HF := HF.as (t := 82) (u := .bool (!lowS x.sta g c)) rfl (congrArg Value.bool (by rw [qpg hne, qj9 hg58, hy, ← qja hne (qp8 hok g c), ← decide_not]; exact decide_eq_decide.2 (by omega)))
      exact ⟨HF.sub (by kernel_rfl), HM.picks [0, 1] (by decide) rfl⟩
     have hd68 := of_decide_eq_false hb68
     refine ap HF (fun _ => HS) [4, 5, 6, 7, 8, 9, 10, 11, 12, 13, 14, 15, 16, 17] #[true, true, true, true, true, true, true, true, true, true, true, true, true, true, true, true, true, true] [(82, .bool false)] fun a HF => ?_
     refine qq (by kernel_rfl) ?_
     have HF := HF.as (t := 82) (u := .bool (!lowS x.sta g c)) rfl (congrArg Value.bool (by rw [qj8 (List.length_eq_zero_iff.1 (by omega))]; rfl))
     exact ⟨HF.sub (by kernel_rfl), HM.picks [0, 1] (by decide) rfl⟩
    clear HF HM; rintro a w15 ⟨HF, HM⟩
    rcases HF.tf 82 rfl with ⟨hb82, HF⟩ | ⟨hb82, HF⟩
    ·
     refine qd HF rfl (wp_seq (qa ?_))
     refine fp HF 1 0 [(2, .bool false)] fun a HF => ?_
     refine qb rfl (wp_ret ?_)
     exact ret1 rfl HF (.tmp HF rfl) (is_as (r_no2 hc21 hg58 (by simpa using hb82)).symm HM.below)
    refine qc HF rfl (wp_skip (qa ?_))
    refine fp HF 2 0 [(60, vI (IntKind.i64.wrap ((g : Int) + 1)))] fun a HF => ?_
    replace HF := HF.sp 60 (vI (g + 1 : Nat)) rfl (qi (by omega) (by omega))
    refine fp HF 1 2 [(6, vI (g + 1 : Nat))] fun a HF => ?_
    refine qb rfl ?_
    exact ⟨_, (by omega), g + 1, by omega, hu2.succ (by simpa using hb82), rfl, HF.sub (by kernel_rfl), HM.picks [1] (by decide) rfl⟩
   have hd58 := of_decide_eq_false hb58
   refine qc HF rfl (wp_exit (qa ?_))
   refine fp HF 2 0 [(22, vI (IntKind.i64.wrap ((c : Int) + 1)))] fun a HF => ?_
   replace HF := HF.sp 22 (vI (c + 1 : Nat)) rfl (qi (by omega) (by omega))
   refine fp HF 1 2 [(3, vI (c + 1 : Nat))] fun a HF => ?_
   refine qb rfl ?_
   exact ⟨_, (by omega), c + 1, by omega, hu.succ (by rw [hcu, Bool.true_and]; exact UpTo.all fun i hi => hu2 i (by omega)), rfl, HF.sub (by kernel_rfl), HM.picks [0] (by decide) rfl⟩
  have hd29 := bne_eq_false_iff_eq.1 hb29
  have hcu : curOk x.sta c = true := qgl (by rw [hid]; omega)
  refine qc HF rfl (wp_skip (wp_seq (qa ?_)))
  refine fp HF 1 0 [(6, vI 0)] fun a HF => ?_
  refine qb rfl (wp_block ?_)
  refine qo (fun mS aS wS => ∃ (g : Nat), (g ≤ x.rs.length) ∧ (UpTo g fun g => lowS x.sta g c) ∧ mS = x.rs.length - g ∧ Fr aS 83 [] [(6, vI g), (29, .bool false), (4, vI id), (20, .bool true), (3, vI c), (15, .bool false), (2, .bool false), (1, vP g1 0)] ∧ Mem w wS [.blk g1 x.cells 30]) (m := x.rs.length - 0) ⟨0, Nat.zero_le _, UpTo.zero, rfl, HF.sub (by kernel_rfl), HM.picks [0] (by decide) rfl⟩ ?_
  clear HF HM; rintro mS a w_ ⟨g, hg, hu2, rfl, HF, HM⟩
  refine wp_seq (wp_seq (qa ?_))
  refine fp HF 2 0 [(55, vP g1 6), (54, vI g)] fun a HF => ?_
  refine fy HF HM 2 rfl rfl rfl (v := .slice x.sA x.rs.length x.sc) (Yl.qf rfl rfl (by kernel_rfl) (fun _ h => h.cell (i := 0) rfl (rfl))) fun a HF => ?_
  refine fy HF HM 3 rfl rfl rfl (Yl.len rfl rfl (by kernel_rfl)) fun a HF => ?_
  refine fp HF 1 4 [(58, .bool (decide ((g : Int) < (x.rs.length : Int))))] fun a HF => ?_
  refine qb rfl ?_
  rcases HF.tf 58 rfl with ⟨hb58, HF⟩ | ⟨hb58, HF⟩
  ·
   have hd58 := of_decide_eq_true hb58
   have hg58 : g < x.rs.length := by omega
   have hml := qhw x g c
   obtain ⟨y, hy⟩ : ∃ z, x.rs.getD g Rw.zero = z := ⟨_, rfl⟩
   have hyr : Rd w w.heap.size 3 y.A y.l.length (y.l.flatMap spL) := by rw [← hy]; exact hx.row hg58
   have hyl : (y.l.length : Int) = x.cpus := by rw [← hy]; exact (qeq hg58 (hsh.row g hg58)).1
   obtain ⟨gq5, oq5, hq5, _⟩ := Rd.qp hx.s (Nat.lt_of_le_of_lt (Nat.zero_le _) (show g < x.rs.length from hg58)) (by decide)
   have hrq5 := hx.s; rw [hq5] at hrq5
   obtain ⟨gq6, oq6, hq6, _⟩ := Rd.qp hyr (Nat.lt_of_le_of_lt (Nat.zero_le _) (show c < y.l.length from (by omega : c < y.l.length))) (by decide)
   have hrq6 := hyr; rw [hq6] at hrq6
   refine qd HF rfl (wp_skip (wp_seq (wp_block (wp_seq (qa ?_)))))
   refine fy HF HM 0 rfl rfl rfl (v := .agg x.cells) (Yl.qr rfl rfl si_st rfl (fun _ h => qe (h.blk (i := 0) rfl))) fun a HF => ?_
   replace HF := HF.sp 61 (.agg x.cells) rfl (rfl)
   refine fp HF 2 1 [(63, vI c), (62, vI g)] fun a HF => ?_
   refine fo HF 3 rfl rfl ?_
   refine e_cl HF [.agg x.cells, vI g, vI c] rfl rfl (qjc x hok hf hsh c (by omega) _ g (Nat.le_refl _) hg58 _ (hx.old HM)) ?_
   rintro _ w64 ⟨⟨A64, c64, rfl, ho, hc64⟩, hbw⟩
   refine ⟨_, rfl, ?_⟩
   replace HM := HM.callRow hbw ho
   clear HF; intro a HF
   refine fp HF 1 4 [(7, .slice A64 ((memS x.sta g c).length) c64)] fun a HF => ?_
   refine qb rfl ?_
   refine qbe (fun aS wS => Fr aS 83 [] [(82, .bool (!lowS x.sta g c)), (7, .slice A64 ((memS x.sta g c).length) c64), (58, .bool true), (6, vI g), (29, .bool false), (4, vI id), (20, .bool true), (3, vI c), (15, .bool false), (2, .bool false), (1, vP g1 0)] ∧ Mem w wS [.row (.slice A64 ((memS x.sta g c).length) c64) ((memS x.sta g c).length) ((memS x.sta g c).flatMap mbrL) 173 3, .blk g1 x.cells 30]) ?_ ?_
   ·
    refine zc HM [.row (.slice A64 ((memS x.sta g c).length) c64) ((memS x.sta g c).length) ((memS x.sta g c).flatMap mbrL) 173 3, .blk g1 x.cells 30] [0, 1] [] fun HM HS => ?_
    refine ap HF (fun _ => HS) [0] #[true, false, false, false, false, false, false, false, false, false, false, false, false, false, false, false, false, false] [(65, .slice A64 ((memS x.sta g c).length) c64)] fun a HF => ?_
    refine ay HF HS 1 rfl rfl rfl (Yl.len rfl rfl (by kernel_rfl)) fun a HF => ?_
    refine ap HF (fun _ => HS) [2, 3] #[true, true, true, true, false, false, false, false, false, false, false, false, false, false, false, false, false, false] [(68, .bool (decide ((((memS x.sta g c).length : Nat) : Int) > (0 : Int))))] fun a HF => ?_
    rcases HF.tf 68 rfl with ⟨hb68, HF⟩ | ⟨hb68, HF⟩
    ·
     have hd68 := of_decide_eq_true hb68
     have hne : memS x.sta g c ≠ [] := fun e => by rw [e] at hd68; exact absurd hd68 (by decide)
     refine ap HF (fun _ => HS) [4, 7, 9, 12] #[true, true, true, true, true, false, false, true, false, true, false, false, true, false, false, false, false, false] [(77, vI c), (74, vI g), (72, vP g1 6), (69, .slice A64 ((memS x.sta g c).length) c64)] fun a HF => ?_
     refine ay HF HS 8 rfl rfl rfl (v := .slice x.sA x.rs.length x.sc) (Yl.qf rfl rfl (by kernel_rfl) (fun _ h => h.cell (i := 1) rfl (rfl))) fun a HF => ?_
     replace HF := HF.as (t := 73) (u := .slice (some ⟨gq5, oq5, none⟩) x.rs.length x.sc) rfl (by rw [hq5]; try rfl)
     refine ay HF HS 10 rfl rfl rfl (v := vP gq5 (oq5 + g * 1)) (Yl.ix gq5 oq5 g 1 rfl rfl rfl) fun a HF => ?_
     refine ay HF HS 11 rfl rfl rfl (v := .slice ((x.rs.getD g Rw.zero).A) ((x.rs.getD g Rw.zero).l.length) ((x.rs.getD g Rw.zero).c)) (Yl.qf rfl rfl (by kernel_rfl) (fun _ h => (h.old hrq5).q7 (k := g) (qz (F := Rw.val) (k := g) (x := (x.rs.getD g Rw.zero)) ((getD_at Rw.zero hg58))))) fun a HF => ?_
     replace HF := HF.sp 76 (.slice y.A y.l.length y.c) rfl (by rw [hy])
     replace HF := HF.as (t := 76) (u := .slice (some ⟨gq6, oq6, none⟩) y.l.length y.c) rfl (by rw [hq6]; try rfl)
     refine ay HF HS 13 rfl rfl rfl (v := vP gq6 (oq6 + c * 3)) (Yl.ix gq6 oq6 c 3 rfl rfl rfl) fun a HF => ?_
     refine ap HF (fun _ => HS) [14] #[true, true, true, true, true, false, false, true, true, true, true, true, true, true, true, false, false, false] [(79, vP gq6 (oq6 + c * 3 + 2))] fun a HF => ?_
     refine ay HF HS 15 rfl rfl rfl (v := vQ ((y.l.getD c Sp.zero).floor)) (Yl.qf rfl rfl (by kernel_rfl) (fun _ h => (h.old hrq6).partAt zr (k := c) (j := 2) (x := (y.l.getD c Sp.zero)) ((getD_at Sp.zero (by omega))) rfl)) fun a HF => ?_
     refine qm [5] (by kernel_rfl) rfl ?_
     refine all_cons ?_ all_nil
     refine qk HF (i := 5) rfl rfl ?_
     refine e_is HF HM [.slice A64 ((memS x.sta g c).length) c64] (.agg ((qc1 (memS x.sta g c)).rcells)) rfl rfl (qg0 A64 c64 (memS x.sta g c) _ (HM.rd (i := 0) rfl) (by omega) (by omega)) fun w70 hbw HM a HF => ?_
     refine keepS (HM.picks [0, 1] (by decide) rfl) (fun HS => ?_)
     refine ay HF HS 6 rfl rfl rfl (v := vQ ((qc1 (memS x.sta g c)).v)) (Yl.field rfl rfl (by kernel_rfl)) fun a HF => ?_
     refine ap HF (fun _ => HS) [16, 17] #[true, true, true, true, true, true, true, true, true, true, true, true, true, true, true, true, true, true] [(82, .bool (decide (((qc1 (memS x.sta g c)).v : Int) > ((y.l.getD c Sp.zero).floor : Int))))] fun a HF => ?_
     refine qq (by kernel_rfl) ?_
     have HF := HF.as (t := 82) (u := .bool (!lowS x.sta g c)) rfl (congrArg Value.bool (by rw [qpg hne, qj9 hg58, hy, ← qja hne (qp8 hok g c), ← decide_not]; exact decide_eq_decide.2 (by omega)))
     exact ⟨HF.sub (by kernel_rfl), HM.picks [0, 1] (by decide) rfl⟩
    have hd68 := of_decide_eq_false hb68
    refine ap HF (fun _ => HS) [4, 5, 6, 7, 8, 9, 10, 11, 12, 13, 14, 15, 16, 17] #[true, true, true, true, true, true, true, true, true, true, true, true, true, true, true, true, true, true] [(82, .bool false)] fun a HF => ?_
    refine qq (by kernel_rfl) ?_
    have HF := HF.as (t := 82) (u := .bool (!lowS x.sta g c)) rfl (congrArg Value.bool (by rw [qj8 (List.length_eq_zero_iff.1 (by omega))]; rfl))
    exact ⟨HF.sub (by kernel_rfl), HM.picks [0, 1] (by decide) rfl⟩
   clear HF HM; rintro a w15 ⟨HF, HM⟩
   rcases HF.tf 82 rfl with ⟨hb82, HF⟩ | ⟨hb82, HF⟩
   ·
    refine qd HF rfl (wp_seq (qa ?_))
    refine fp HF 1 0 [(2, .bool false)] fun a HF => ?_
    refine qb rfl (wp_ret ?_)
    exact ret1 rfl HF (.tmp HF rfl) (is_as (r_no2 hc21 hg58 (by simpa using hb82)).symm HM.below)
   refine qc HF rfl (wp_skip (qa ?_))
   refine fp HF 2 0 [(60, vI (IntKind.i64.wrap ((g : Int) + 1)))] fun a HF => ?_
   replace HF := HF.sp 60 (vI (g + 1 : Nat)) rfl (qi (by omega) (by omega))
   refine fp HF 1 2 [(6, vI (g + 1 : Nat))] fun a HF => ?_
   refine qb rfl ?_
   exact ⟨_, (by omega), g + 1, by omega, hu2.succ (by simpa using hb82), rfl, HF.sub (by kernel_rfl), HM.picks [1] (by decide) rfl⟩
  have hd58 := of_decide_eq_false hb58
  refine qc HF rfl (wp_exit (qa ?_))
  refine fp HF 2 0 [(22, vI (IntKind.i64.wrap ((c : Int) + 1)))] fun a HF => ?_
  replace HF := HF.sp 22 (vI (c + 1 : Nat)) rfl (qi (by omega) (by omega))
  refine fp HF 1 2 [(3, vI (c + 1 : Nat))] fun a HF => ?_
  refine qb rfl ?_
  exact ⟨_, (by omega), c + 1, by omega, hu.succ (by rw [hcu, Bool.true_and]; exact UpTo.all fun i hi => hu2 i (by omega)), rfl, HF.sub (by kernel_rfl), HM.picks [0] (by decide) rfl⟩
 have hd20 := of_decide_eq_false hb20
 refine qc HF rfl (wp_exit (wp_seq (qa ?_)))
 refine fp HF 1 0 [(2, .bool true)] fun a HF => ?_
 refine qb rfl (wp_ret ?_)
 exact ret1 rfl HF (.tmp HF rfl) (is_as (r_yes hsd (fun i hi => hu i (by omega))).symm HM.below)
theorem qur : EI Tryz.prog 121 9 (.string (ByteArray.mk #[])) 1 16 := ⟨by kernel_rfl, by kernel_rfl, rfl, by omega⟩
theorem qg2 (w : World) :
    Calls Tryz.prog 54 #[] w (qsn 9 w) := by
 refine qg (vs := []) Tryz.func54 rfl rfl (by kernel_rfl) (σ0 := []) rfl ?_
 intro a HF
 have HM := Mem.start w
 refine wp_seq (qa ?_)
 refine fp HF 1 0 [(0, .slice none 0 0)] fun a HF => ?_
 refine qb rfl (wp_seq (qa ?_))
 refine fo HF 0 rfl rfl ?_
 refine qt HF HM (vs := [(0, .string (ByteArray.mk #[104, 101, 97, 100])), (1, .string (ByteArray.mk #[110, 101, 120, 116])), (2, .string (ByteArray.mk #[99, 111, 110, 102, 105, 103])), (3, .string (ByteArray.mk #[103, 114, 111, 117, 112, 115])), (4, .string (ByteArray.mk #[99, 108, 111, 99, 107, 115])), (5, .string (ByteArray.mk #[99, 117, 114, 114, 101, 110, 116])), (6, .string (ByteArray.mk #[116, 97, 115, 107, 115])), (7, .string (ByteArray.mk #[115, 112, 111, 116, 115])), (8, .string (ByteArray.mk #[115, 117, 109]))]) (cs := #[.string (ByteArray.mk #[104, 101, 97, 100]), .string (ByteArray.mk #[110, 101, 120, 116]), .string (ByteArray.mk #[99, 111, 110, 102, 105, 103]), .string (ByteArray.mk #[103, 114, 111, 117, 112, 115]), .string (ByteArray.mk #[99, 108, 111, 99, 107, 115]), .string (ByteArray.mk #[99, 117, 114, 114, 101, 110, 116]), .string (ByteArray.mk #[116, 97, 115, 107, 115]), .string (ByteArray.mk #[115, 112, 111, 116, 115]), .string (ByteArray.mk #[115, 117, 109])]) rfl qur (by decide) rfl (by kernel_rfl) rfl (by decide) ?_
 clear HF HM; intro a w1 g1 HF HM
 refine fp HF 1 1 [(0, vS g1 9 9)] fun a HF => ?_
 refine qb rfl ?_
 replace HM := (HM.blkRow (i := 0) (n := 9) (size := 1) rfl rfl (by decide)).asRow (i := 0) (ys := nameL.map StrC) rfl (by kernel_rfl)
 refine wp_ret ?_
 exact ret1 rfl HF (.tmp HF rfl) (⟨⟨_, rfl, HM.own (i := 0) rfl⟩, HM.below⟩)
theorem qg3 (s : Snm) (hok : s.st.sta.Ok) (hf : StFew s.st) (w : World) (hx : StRd w s.st) :
    Calls Tryz.prog 53 #[.agg s.cells] w (Is w (.int .i64 (chkS s : Int))) := by
 refine qg (vs := [.agg s.cells]) Tryz.func53 rfl rfl (by kernel_rfl) (σ0 := [(0, .agg s.cells)]) rfl ?_
 intro a HF
 have HM := Mem.start w
 refine wp_seq (qa ?_)
 refine fo HF 0 rfl rfl ?_
 refine e_box HF HM (cs := s.cells) rfl rfl rfl rfl (by decide) ?_
 clear HF HM; intro a w1 g1 HF HM
 refine fp HF 1 1 [(2, vI 0)] fun a HF => ?_
 refine qb rfl (wp_seq (wp_seq (qa ?_)))
 refine fp HF 1 0 [(3, vP g1 0)] fun a HF => ?_
 refine fy HF HM 1 rfl rfl rfl (v := vI s.next) (Yl.qf rfl rfl (by kernel_rfl) (fun _ h => h.cell (i := 0) rfl (rfl))) fun a HF => ?_
 refine fp HF 2 2 [(6, .bool (decide ((s.next : Int) < (1 : Int))))] fun a HF => ?_
 rcases HF.tf 6 rfl with ⟨hb6, HF⟩ | ⟨hb6, HF⟩
 ·
  have hd6 := of_decide_eq_true hb6
  refine fp HF 4 4 [(10, .bool true)] fun a HF => ?_
  refine qb rfl (qd HF rfl (wp_seq (qa ?_)))
  refine fp HF 1 0 [(2, vI 330)] fun a HF => ?_
  refine qb rfl (wp_ret ?_)
  exact ret1 rfl HF (.tmp HF rfl) (⟨by rw [qe1 (by omega)]; rfl, HM.below⟩)
 have hd6 := of_decide_eq_false hb6
 refine fp HF 1 4 [(7, vP g1 0)] fun a HF => ?_
 refine fy HF HM 5 rfl rfl rfl (v := vI s.next) (Yl.qf rfl rfl (by kernel_rfl) (fun _ h => h.cell (i := 0) rfl (rfl))) fun a HF => ?_
 refine fp HF 2 6 [(10, .bool (decide ((s.next : Int) > (281474976710657 : Int))))] fun a HF => ?_
 refine qb rfl ?_
 rcases HF.tf 10 rfl with ⟨hb10, HF⟩ | ⟨hb10, HF⟩
 ·
  have hd10 := of_decide_eq_true hb10
  refine qd HF rfl (wp_seq (qa ?_))
  refine fp HF 1 0 [(2, vI 330)] fun a HF => ?_
  refine qb rfl (wp_ret ?_)
  exact ret1 rfl HF (.tmp HF rfl) (⟨by rw [qe1 (by omega)]; rfl, HM.below⟩)
 have hd10 := of_decide_eq_false hb10
 refine qc HF rfl (wp_skip (wp_seq (wp_seq (qa ?_))))
 refine fp HF 1 0 [(11, vP g1 1)] fun a HF => ?_
 refine fy HF HM 1 rfl rfl rfl (v := .agg #[vI s.st.cpus, vQ s.st.credit, .slice s.st.gA s.st.gs.length s.st.gc, .slice s.st.lA s.st.cl.length s.st.lc, .slice s.st.uA s.st.cu.length s.st.uc, .slice s.st.tA s.st.ts.length s.st.tc, .slice s.st.sA s.st.rs.length s.st.sc]) (Yl.qr rfl rfl si_st rfl (fun _ h => h.sub (i := 0) rfl 1 rfl)) fun a HF => ?_
 replace HF := HF.sp 12 (.agg s.st.cells) rfl (rfl)
 refine fo HF 2 rfl rfl ?_
 refine e_is HF HM [.agg s.st.cells] (.bool (qak s.st.sta)) rfl rfl (qm9 s.st hok hf _ (hx.old HM)) fun w13 hbw HM a HF => ?_
 refine fp HF 1 3 [(14, .bool (!(qak s.st.sta)))] fun a HF => ?_
 refine qb rfl ?_
 rcases HF.tf 14 rfl with ⟨hb14, HF⟩ | ⟨hb14, HF⟩
 ·
  refine qd HF rfl (wp_seq (qa ?_))
  refine fp HF 1 0 [(2, vI 331)] fun a HF => ?_
  refine qb rfl (wp_ret ?_)
  exact ret1 rfl HF (.tmp HF rfl) (⟨by rw [qi6 (by omega) (by simpa using hb14)]; rfl, HM.below⟩)
 refine qc HF rfl (wp_skip (wp_seq (qa ?_)))
 refine fp HF 1 0 [(2, vI 0)] fun a HF => ?_
 refine qb rfl (wp_ret ?_)
 exact ret1 rfl HF (.tmp HF rfl) (⟨by rw [qi7 (by omega) (by simpa using hb14)]; rfl, HM.below⟩)
theorem qus (s : Snm) (hok : s.st.sta.Ok) (hf : StFew s.st) (hsh : ShAt s.st) (nm : ByteArray) (w : World) (hx : StRd w s.st) :
    Calls Tryz.prog 55 #[.agg s.cells, .string nm] w (qa7 w (ofR s nm)) := by
 have hgl := hf.g; have htl := hf.t; have hll := hf.l; have hul := hf.u; have hrl := hf.s
 have hg1 := (qe6 (qcq hsh.cfg).2.2.2).1
 obtain ⟨hc1, hc2, _, _⟩ := qcq hsh.cfg
 have hcred := hok.credit
 replace hcred : s.st.credit < 18446744073709551616 := hcred
 refine qg (vs := [.agg s.cells, .string nm]) Tryz.func55 rfl rfl (by kernel_rfl) (σ0 := [(0, .agg s.cells), (1, .string nm)]) rfl ?_
 intro a HF
 have HM := Mem.start w
 refine wp_seq (qa ?_)
 refine fo HF 0 rfl rfl ?_
 refine e_box HF HM (cs := s.cells) rfl rfl rfl rfl (by decide) ?_
 clear HF HM; intro a w2 g2 HF HM
 refine fp HF 1 1 [(4, .slice none 0 0)] fun a HF => ?_
 refine qb rfl (wp_seq (qa ?_))
 refine fp HF 1 0 [(5, .slice none 0 0)] fun a HF => ?_
 refine qb rfl ?_
 replace HM := HM.nil 22 1
 refine wp_seq (qa ?_)
 refine fp HF 1 0 [(16, vP g2 1)] fun a HF => ?_
 refine fy HF HM 1 rfl rfl rfl (v := .agg #[vI s.st.cpus, vQ s.st.credit, .slice s.st.gA s.st.gs.length s.st.gc, .slice s.st.lA s.st.cl.length s.st.lc, .slice s.st.uA s.st.cu.length s.st.uc, .slice s.st.tA s.st.ts.length s.st.tc, .slice s.st.sA s.st.rs.length s.st.sc]) (Yl.qr rfl rfl si_st rfl (fun _ h => h.sub (i := 1) rfl 1 rfl)) fun a HF => ?_
 replace HF := HF.sp 17 (.agg s.st.cells) rfl (rfl)
 refine fo HF 2 rfl rfl ?_
 refine qs HF HM (cs := #[vI 0, vQ 0, .slice none 0 0, .slice none 0 0, .slice none 0 0, .slice none 0 0, .slice none 0 0]) rfl (by kernel_rfl) rfl (by decide) ?_
 clear HF HM; intro a w6 g6 HF HM
 refine fo HF 3 rfl rfl ?_
 refine e_sa HF HM 0 rfl rfl rfl rfl rfl si_st rfl rfl (qb6 s.st) ?_
 clear HM; intro w2_3 HM
 refine qb rfl (wp_seq (wp_seq (qa ?_)))
 refine fp HF 1 0 [(18, .string nm)] fun a HF => ?_
 refine qb rfl (wp_block (wp_seq (qa ?_)))
 refine fp HF 2 0 [(19, .bool ((nm).toList == ((ByteArray.mk #[110, 101, 120, 116])).toList))] fun a HF => ?_
 refine qb rfl ?_
 rcases HF.tf 19 rfl with ⟨hb19, HF⟩ | ⟨hb19, HF⟩
 ·
  refine qd HF rfl (qa ?_)
  refine fp HF 2 0 [(22, vP g2 0), (21, .slice none 0 0)] fun a HF => ?_
  refine fy HF HM 2 rfl rfl rfl (v := vI s.next) (Yl.qf rfl rfl (by kernel_rfl) (fun _ h => h.cell (i := 2) rfl (rfl))) fun a HF => ?_
  refine fp HF 1 3 [(24, vQ (IntKind.u64.wrap s.next))] fun a HF => ?_
  replace HF := HF.sp 24 (vQ (toU s.next)) rfl (zb _)
  refine fo HF 4 rfl rfl ?_
  refine qt HF HM (vs := [(0, vQ (toU s.next))]) (cs := #[vQ (toU s.next)]) rfl za (by decide) rfl (by kernel_rfl) rfl (by decide) ?_
  clear HF HM; intro a w25 g25 HF HM
  refine fo HF 5 rfl rfl ?_
  refine qw HF HM (i := 2) rfl za rfl rfl rfl (news := ([toU s.next].map U64)) (HM.rdBlk (i := 0) (n := 1) (size := 1) rfl rfl) (zn _) (by omega) (by omega) rfl (by decide) ?_
  clear HF HM; intro a w26 A26 c26 HF HM hc26
  refine fp HF 1 6 [(5, .slice A26 (0 + 1) c26)] fun a HF => ?_
  refine qb rfl ?_
  have hnA26 : 0 + 1 = [toU s.next].length := rfl
  replace HM := HM.reRow (i := 2) (ys := [toU s.next].map U64) rfl hnA26 (rfl)
  rw [hnA26] at hc26
  replace HF := HF.as (t := 5) (u := .slice A26 ([toU s.next].length) c26) rfl (by rw [hnA26])
  replace HF := HF.as (t := 26) (u := .slice A26 ([toU s.next].length) c26) rfl (by rw [hnA26])
  refine wp_seq (qa ?_)
  refine fp HF 2 0 [(4, .slice A26 ([toU s.next].length) c26)] fun a HF => ?_
  refine qb rfl (wp_ret ?_)
  exact ret1 rfl HF (.tmp HF rfl) (ze ((show _ = secN s 0 from rfl).trans (Eq.symm (qeu hb19))) (HM.own (i := 2) rfl) hc26 HM.below)
 refine qc HF rfl (wp_seq (qa ?_))
 refine fp HF 2 0 [(27, .bool ((nm).toList == ((ByteArray.mk #[99, 111, 110, 102, 105, 103])).toList))] fun a HF => ?_
 refine qb rfl ?_
 rcases HF.tf 27 rfl with ⟨hb27, HF⟩ | ⟨hb27, HF⟩
 ·
  refine qd HF rfl (qa ?_)
  refine fp HF 3 0 [(31, vP g6 0), (29, .slice none 0 0)] fun a HF => ?_
  refine fy HF HM 3 rfl rfl rfl (v := vI s.st.cpus) (Yl.qf rfl rfl (by kernel_rfl) (fun _ h => h.cell (i := 0) rfl (rfl))) fun a HF => ?_
  refine fp HF 1 4 [(33, vQ (IntKind.u64.wrap s.st.cpus))] fun a HF => ?_
  replace HF := HF.sp 33 (vQ (toU s.st.cpus)) rfl (zb _)
  refine fp HF 2 5 [(35, vP g6 1)] fun a HF => ?_
  refine fy HF HM 7 rfl rfl rfl (v := vQ s.st.credit) (Yl.qf rfl rfl (by kernel_rfl) (fun _ h => h.cell (i := 0) rfl (rfl))) fun a HF => ?_
  refine fp HF 2 8 [(38, vP g6 2)] fun a HF => ?_
  refine fy HF HM 10 rfl rfl rfl (v := .slice s.st.gA s.st.gs.length s.st.gc) (Yl.qf rfl rfl (by kernel_rfl) (fun _ h => h.cell (i := 0) rfl (rfl))) fun a HF => ?_
  refine fy HF HM 11 rfl rfl rfl (Yl.len rfl rfl (by kernel_rfl)) fun a HF => ?_
  refine fp HF 1 12 [(41, vQ (IntKind.u64.wrap (s.st.gs.length : Int)))] fun a HF => ?_
  replace HF := HF.sp 41 (vQ s.st.gs.length) rfl (qah rfl (by omega))
  refine fo HF 13 rfl rfl ?_
  refine qt HF HM (vs := [(0, vQ (toU s.st.cpus)), (1, vQ s.st.credit), (2, vQ s.st.gs.length)]) (cs := #[vQ (toU s.st.cpus), vQ s.st.credit, vQ s.st.gs.length]) rfl za (by decide) rfl (by kernel_rfl) rfl (by decide) ?_
  clear HF HM; intro a w42 g42 HF HM
  refine fo HF 14 rfl rfl ?_
  refine qw HF HM (i := 2) rfl za rfl rfl rfl (news := ([toU s.st.cpus, s.st.credit, s.st.gs.length].map U64)) (HM.rdBlk (i := 0) (n := 3) (size := 1) rfl rfl) (zn _) (by omega) (by omega) rfl (by decide) ?_
  clear HF HM; intro a w43 A43 c43 HF HM hc43
  refine fp HF 1 15 [(5, .slice A43 (0 + 3) c43)] fun a HF => ?_
  refine qb rfl ?_
  have hnA43 : 0 + 3 = [toU s.st.cpus, s.st.credit, s.st.gs.length].length := rfl
  replace HM := HM.reRow (i := 2) (ys := [toU s.st.cpus, s.st.credit, s.st.gs.length].map U64) rfl hnA43 (rfl)
  rw [hnA43] at hc43
  replace HF := HF.as (t := 5) (u := .slice A43 ([toU s.st.cpus, s.st.credit, s.st.gs.length].length) c43) rfl (by rw [hnA43])
  replace HF := HF.as (t := 43) (u := .slice A43 ([toU s.st.cpus, s.st.credit, s.st.gs.length].length) c43) rfl (by rw [hnA43])
  refine wp_seq (qa ?_)
  refine fp HF 2 0 [(4, .slice A43 ([toU s.st.cpus, s.st.credit, s.st.gs.length].length) c43)] fun a HF => ?_
  refine qb rfl (wp_ret ?_)
  exact ret1 rfl HF (.tmp HF rfl) (ze ((show _ = secN s 1 from rfl).trans (Eq.symm ((of_no hb19).trans (qeu hb27)))) (HM.own (i := 2) rfl) hc43 HM.below)
 refine qc HF rfl (wp_seq (qa ?_))
 refine fp HF 2 0 [(44, .bool ((nm).toList == ((ByteArray.mk #[103, 114, 111, 117, 112, 115])).toList))] fun a HF => ?_
 refine qb rfl ?_
 rcases HF.tf 44 rfl with ⟨hb44, HF⟩ | ⟨hb44, HF⟩
 ·
  refine qd HF rfl (wp_seq (qa ?_))
  refine fp HF 1 0 [(7, vI 1)] fun a HF => ?_
  refine qb rfl (wp_block ?_)
  refine qo (fun mS aS wS => ∃ (g : Nat) (q : List Nat) (Ao : Option Addr) (co : Nat), (1 ≤ g) ∧ (g ≤ s.st.gs.length) ∧ (q = upF (g - 1) (gsN s.st.gs)) ∧ (q.length ≤ 2 * (g - 1)) ∧ (q.length ≤ co) ∧ mS = s.st.gs.length - g ∧ Fr aS 223 [] [(7, vI g), (44, .bool true), (27, .bool false), (19, .bool false), (18, .string nm), (6, vP g6 0), (5, .slice Ao q.length co), (4, .slice none 0 0), (2, vP g2 0)] ∧ Mem w wS [.blk g6 s.st.cells 30, .row (.slice Ao q.length co) q.length (q.map U64) 22 1, .blk g2 s.cells 56]) (m := s.st.gs.length - 1) ⟨1, [], none, 0, Nat.le_refl _, by omega, rfl, Nat.le_refl _, Nat.le_refl _, rfl, HF.sub (by kernel_rfl), HM.picks [0, 1, 2] (by decide) rfl⟩ ?_
  clear HF HM; rintro mS a w_ ⟨g, q, Ao, co, hg1, hg, hq, hql, hco, rfl, HF, HM⟩
  refine wp_seq (wp_seq (qa ?_))
  refine fp HF 3 0 [(48, vP g6 2), (46, vI g)] fun a HF => ?_
  refine fy HF HM 3 rfl rfl rfl (v := .slice s.st.gA s.st.gs.length s.st.gc) (Yl.qf rfl rfl (by kernel_rfl) (fun _ h => h.cell (i := 0) rfl (rfl))) fun a HF => ?_
  refine fy HF HM 4 rfl rfl rfl (Yl.len rfl rfl (by kernel_rfl)) fun a HF => ?_
  refine fp HF 1 5 [(51, .bool (decide ((g : Int) < (s.st.gs.length : Int))))] fun a HF => ?_
  refine qb rfl ?_
  rcases HF.tf 51 rfl with ⟨hb51, HF⟩ | ⟨hb51, HF⟩
  ·
   have hd51 := of_decide_eq_true hb51
   have hg51 : g < s.st.gs.length := by omega
   obtain ⟨gq1, oq1, hq1, _⟩ := Rd.qp hx.g (Nat.lt_of_le_of_lt (Nat.zero_le _) (show g < s.st.gs.length from hg51)) (by decide)
   have hrq1 := hx.g; rw [hq1] at hrq1
   refine qd HF rfl (wp_skip (wp_seq (wp_block ?_)))
   refine zc HM [.blk g6 s.st.cells 30, .blk g2 s.cells 56] [0, 2] [] fun HM HS => ?_
   refine ap HF (fun _ => HS) [0, 1, 2, 4, 9, 10, 12] #[true, true, true, false, true, false, false, false, false, true, true, false, true, false, false, false, false, false, false, false] [(66, vI g), (64, vP g6 2), (58, vI g), (56, vP g6 2), (54, .slice Ao q.length co)] fun a HF => ?_
   refine ay HF HS 3 rfl rfl rfl (v := .slice s.st.gA s.st.gs.length s.st.gc) (Yl.qf rfl rfl (by kernel_rfl) (fun _ h => h.cell (i := 0) rfl (rfl))) fun a HF => ?_
   replace HF := HF.as (t := 57) (u := .slice (some ⟨gq1, oq1, none⟩) s.st.gs.length s.st.gc) rfl (by rw [hq1]; try rfl)
   refine ay HF HS 5 rfl rfl rfl (v := vP gq1 (oq1 + g * 2)) (Yl.ix gq1 oq1 g 2 rfl rfl rfl) fun a HF => ?_
   refine ap HF (fun _ => HS) [6] #[true, true, true, true, true, true, true, false, false, true, true, false, true, false, false, false, false, false, false, false] [(60, vP gq1 (oq1 + g * 2))] fun a HF => ?_
   refine ay HF HS 7 rfl rfl rfl (v := vI ((s.st.gs.getD g Gr.zero).parent)) (Yl.qf rfl rfl (by kernel_rfl) (fun _ h => (by have := (h.old hrq1).partAt zk (k := g) (j := 0) (x := (s.st.gs.getD g Gr.zero)) ((getD_at Gr.zero hg51)) rfl; simpa using this))) fun a HF => ?_
   refine q3 HF (fun _ => HS) (i := 8) rfl rfl (d := 62) rfl (by decide) (by kernel_rfl) (fun _ _ _ h => h) (v := vQ (IntKind.u64.wrap ((s.st.gs.getD g Gr.zero).parent))) (fun _ => Yl.pure (by kernel_rfl)) fun a HF => ?_
   replace HF := HF.sp 62 (vQ (toU (s.st.gs.getD g Gr.zero).parent)) rfl (zb _)
   refine ay HF HS 11 rfl rfl rfl (v := .slice s.st.gA s.st.gs.length s.st.gc) (Yl.qf rfl rfl (by kernel_rfl) (fun _ h => h.cell (i := 0) rfl (rfl))) fun a HF => ?_
   replace HF := HF.as (t := 65) (u := .slice (some ⟨gq1, oq1, none⟩) s.st.gs.length s.st.gc) rfl (by rw [hq1]; try rfl)
   refine ay HF HS 13 rfl rfl rfl (v := vP gq1 (oq1 + g * 2)) (Yl.ix gq1 oq1 g 2 rfl rfl rfl) fun a HF => ?_
   refine ap HF (fun _ => HS) [14] #[true, true, true, true, true, true, true, true, true, true, true, true, true, true, true, false, false, false, false, false] [(68, vP gq1 (oq1 + g * 2 + 1))] fun a HF => ?_
   refine ay HF HS 15 rfl rfl rfl (v := vI ((s.st.gs.getD g Gr.zero).weight)) (Yl.qf rfl rfl (by kernel_rfl) (fun _ h => (h.old hrq1).partAt zk (k := g) (j := 1) (x := (s.st.gs.getD g Gr.zero)) ((getD_at Gr.zero hg51)) rfl)) fun a HF => ?_
   refine q3 HF (fun _ => HS) (i := 16) rfl rfl (d := 70) rfl (by decide) (by kernel_rfl) (fun _ _ _ h => h) (v := vQ (IntKind.u64.wrap ((s.st.gs.getD g Gr.zero).weight))) (fun _ => Yl.pure (by kernel_rfl)) fun a HF => ?_
   replace HF := HF.sp 70 (vQ (toU (s.st.gs.getD g Gr.zero).weight)) rfl (zb _)
   refine qm [17] (by kernel_rfl) rfl ?_
   refine all_cons ?_ all_nil
   refine qk HF (i := 17) rfl rfl ?_
   refine qt HF HM (vs := [(0, vQ (toU (s.st.gs.getD g Gr.zero).parent)), (1, vQ (toU (s.st.gs.getD g Gr.zero).weight))]) (cs := #[vQ (toU (s.st.gs.getD g Gr.zero).parent), vQ (toU (s.st.gs.getD g Gr.zero).weight)]) rfl za (by decide) rfl (by kernel_rfl) rfl (by decide) ?_
   clear HF HM; intro a w71 g71 HF HM
   refine keepS (HM.picks [1, 3] (by decide) rfl) (fun HS => ?_)
   refine qm [18] (by kernel_rfl) rfl ?_
   refine all_cons ?_ all_nil
   refine qk HF (i := 18) rfl rfl ?_
   refine qw HF HM (i := 2) rfl za rfl rfl rfl (news := ([toU (s.st.gs.getD g Gr.zero).parent, toU (s.st.gs.getD g Gr.zero).weight].map U64)) (HM.rdBlk (i := 0) (n := 2) (size := 1) rfl rfl) (zn _) (by omega) (by omega) rfl (by decide) ?_
   clear HF HM; intro a w72 A72 c72 HF HM hc72
   refine keepS (HM.picks [1, 3] (by decide) rfl) (fun HS => ?_)
   refine ap HF (fun _ => HS) [19] #[true, true, true, true, true, true, true, true, true, true, true, true, true, true, true, true, true, true, true, true] [(5, .slice A72 (q.length + 2) c72)] fun a HF => ?_
   refine qq (by kernel_rfl) ?_
   have hnA72 : q.length + 2 = (q ++ [toU (s.st.gs.getD g Gr.zero).parent, toU (s.st.gs.getD g Gr.zero).weight]).length := zd rfl
   replace HM := HM.reRow (i := 2) (ys := (q ++ [toU (s.st.gs.getD g Gr.zero).parent, toU (s.st.gs.getD g Gr.zero).weight]).map U64) rfl hnA72 (List.map_append.symm)
   rw [hnA72] at hc72
   replace HF := HF.as (t := 5) (u := .slice A72 ((q ++ [toU (s.st.gs.getD g Gr.zero).parent, toU (s.st.gs.getD g Gr.zero).weight]).length) c72) rfl (by rw [hnA72])
   replace HF := HF.as (t := 72) (u := .slice A72 ((q ++ [toU (s.st.gs.getD g Gr.zero).parent, toU (s.st.gs.getD g Gr.zero).weight]).length) c72) rfl (by rw [hnA72])
   refine qa ?_
   refine fp HF 2 0 [(53, vI (IntKind.i64.wrap ((g : Int) + 1)))] fun a HF => ?_
   replace HF := HF.sp 53 (vI (g + 1 : Nat)) rfl (qi (by omega) (by omega))
   refine fp HF 1 2 [(7, vI (g + 1 : Nat))] fun a HF => ?_
   refine qb rfl ?_
   exact ⟨_, (by omega), g + 1, (q ++ [toU (s.st.gs.getD g Gr.zero).parent, toU (s.st.gs.getD g Gr.zero).weight]), A72, c72, by omega, by omega, by rw [show g + 1 - 1 = (g - 1) + 1 by omega, qv, ← hq, qv6 hg1], by rw [List.length_append, show [toU (s.st.gs.getD g Gr.zero).parent, toU (s.st.gs.getD g Gr.zero).weight].length = 2 from rfl]; omega, hc72, rfl, HF.sub (by kernel_rfl), HM.picks [1, 2, 3] (by decide) rfl⟩
  have hd51 := of_decide_eq_false hb51
  refine qc HF rfl (wp_exit (wp_seq (qa ?_)))
  refine fp HF 2 0 [(4, .slice Ao q.length co)] fun a HF => ?_
  refine qb rfl (wp_ret ?_)
  exact ret1 rfl HF (.tmp HF rfl) (ze ((show _ = secN s 2 from by rw [hq, show g = s.st.gs.length by omega]; rfl).trans (Eq.symm ((of_no hb19).trans ((of_no hb27).trans (qeu hb44))))) (HM.own (i := 1) rfl) hco HM.below)
 refine qc HF rfl (wp_seq (qa ?_))
 refine fp HF 2 0 [(73, .bool ((nm).toList == ((ByteArray.mk #[99, 108, 111, 99, 107, 115])).toList))] fun a HF => ?_
 refine qb rfl ?_
 rcases HF.tf 73 rfl with ⟨hb73, HF⟩ | ⟨hb73, HF⟩
 ·
  refine qd HF rfl (wp_seq (qa ?_))
  refine fp HF 1 0 [(8, vI 0)] fun a HF => ?_
  refine qb rfl (wp_block ?_)
  refine qo (fun mS aS wS => ∃ (k : Nat) (q : List Nat) (Ao : Option Addr) (co : Nat), (k ≤ s.st.cl.length) ∧ (q = (s.st.cl.take k).map toU) ∧ (q.length ≤ k) ∧ (q.length ≤ co) ∧ mS = s.st.cl.length - k ∧ Fr aS 223 [] [(8, vI k), (73, .bool true), (44, .bool false), (27, .bool false), (19, .bool false), (18, .string nm), (6, vP g6 0), (5, .slice Ao q.length co), (4, .slice none 0 0), (2, vP g2 0)] ∧ Mem w wS [.blk g6 s.st.cells 30, .row (.slice Ao q.length co) q.length (q.map U64) 22 1, .blk g2 s.cells 56]) (m := s.st.cl.length - 0) ⟨0, [], none, 0, Nat.zero_le _, rfl, Nat.le_refl _, Nat.le_refl _, rfl, HF.sub (by kernel_rfl), HM.picks [0, 1, 2] (by decide) rfl⟩ ?_
  clear HF HM; rintro mS a w_ ⟨k, q, Ao, co, hk, hq, hql, hco, rfl, HF, HM⟩
  refine wp_seq (wp_seq (qa ?_))
  refine fp HF 2 0 [(76, vP g6 3), (75, vI k)] fun a HF => ?_
  refine fy HF HM 2 rfl rfl rfl (v := .slice s.st.lA s.st.cl.length s.st.lc) (Yl.qf rfl rfl (by kernel_rfl) (fun _ h => h.cell (i := 0) rfl (rfl))) fun a HF => ?_
  refine fy HF HM 3 rfl rfl rfl (Yl.len rfl rfl (by kernel_rfl)) fun a HF => ?_
  refine fp HF 1 4 [(79, .bool (decide ((k : Int) < (s.st.cl.length : Int))))] fun a HF => ?_
  refine qb rfl ?_
  rcases HF.tf 79 rfl with ⟨hb79, HF⟩ | ⟨hb79, HF⟩
  ·
   have hd79 := of_decide_eq_true hb79
   refine qd HF rfl (wp_skip (wp_seq (wp_block (qa ?_))))
   refine fp HF 2 0 [(83, vP g6 3), (82, .slice Ao q.length co)] fun a HF => ?_
   refine fy HF HM 2 rfl rfl rfl (v := .slice s.st.lA s.st.cl.length s.st.lc) (Yl.qf rfl rfl (by kernel_rfl) (fun _ h => h.cell (i := 0) rfl (rfl))) fun a HF => ?_
   refine fp HF 1 3 [(85, vI k)] fun a HF => ?_
   obtain ⟨gq2, oq2, hq2, _⟩ := Rd.qp hx.l (Nat.lt_of_le_of_lt (Nat.zero_le _) (show k < s.st.cl.length from by omega)) (by decide)
   have hrq2 := hx.l; rw [hq2] at hrq2
   replace HF := HF.as (t := 84) (u := .slice (some ⟨gq2, oq2, none⟩) s.st.cl.length s.st.lc) rfl (by rw [hq2]; try rfl)
   refine fy HF HM 4 rfl rfl rfl (v := vP gq2 (oq2 + k * 1)) (Yl.ix gq2 oq2 k 1 rfl rfl rfl) fun a HF => ?_
   refine fy HF HM 5 rfl rfl rfl (v := vI (s.st.cl.getD k 0)) (Yl.qf rfl rfl (by kernel_rfl) (fun _ h => (h.old hrq2).q7 (k := k) (qz (F := I64i) (k := k) (x := (s.st.cl.getD k 0)) ((getD_at 0 (by omega)))))) fun a HF => ?_
   refine fp HF 1 6 [(88, vQ (IntKind.u64.wrap (s.st.cl.getD k 0)))] fun a HF => ?_
   replace HF := HF.sp 88 (vQ (toU (s.st.cl.getD k 0))) rfl (zb _)
   refine fo HF 7 rfl rfl ?_
   refine qt HF HM (vs := [(0, vQ (toU (s.st.cl.getD k 0)))]) (cs := #[vQ (toU (s.st.cl.getD k 0))]) rfl za (by decide) rfl (by kernel_rfl) rfl (by decide) ?_
   clear HF HM; intro a w89 g89 HF HM
   refine fo HF 8 rfl rfl ?_
   refine qw HF HM (i := 2) rfl za rfl rfl rfl (news := ([toU (s.st.cl.getD k 0)].map U64)) (HM.rdBlk (i := 0) (n := 1) (size := 1) rfl rfl) (zn _) (by omega) (by omega) rfl (by decide) ?_
   clear HF HM; intro a w90 A90 c90 HF HM hc90
   refine fp HF 1 9 [(5, .slice A90 (q.length + 1) c90)] fun a HF => ?_
   refine qb rfl ?_
   have hnA90 : q.length + 1 = (q ++ [toU (s.st.cl.getD k 0)]).length := zd rfl
   replace HM := HM.reRow (i := 2) (ys := (q ++ [toU (s.st.cl.getD k 0)]).map U64) rfl hnA90 (List.map_append.symm)
   rw [hnA90] at hc90
   replace HF := HF.as (t := 5) (u := .slice A90 ((q ++ [toU (s.st.cl.getD k 0)]).length) c90) rfl (by rw [hnA90])
   replace HF := HF.as (t := 90) (u := .slice A90 ((q ++ [toU (s.st.cl.getD k 0)]).length) c90) rfl (by rw [hnA90])
   refine qa ?_
   refine fp HF 2 0 [(81, vI (IntKind.i64.wrap ((k : Int) + 1)))] fun a HF => ?_
   replace HF := HF.sp 81 (vI (k + 1 : Nat)) rfl (qi (by omega) (by omega))
   refine fp HF 1 2 [(8, vI (k + 1 : Nat))] fun a HF => ?_
   refine qb rfl ?_
   exact ⟨_, (by omega), k + 1, (q ++ [toU (s.st.cl.getD k 0)]), A90, c90, by omega, by rw [hq, qca (by omega)], by rw [List.length_append, show [toU (s.st.cl.getD k 0)].length = 1 from rfl]; omega, hc90, rfl, HF.sub (by kernel_rfl), HM.picks [1, 2, 3] (by decide) rfl⟩
  have hd79 := of_decide_eq_false hb79
  refine qc HF rfl (wp_exit (wp_seq (qa ?_)))
  refine fp HF 2 0 [(4, .slice Ao q.length co)] fun a HF => ?_
  refine qb rfl (wp_ret ?_)
  exact ret1 rfl HF (.tmp HF rfl) (ze ((show _ = secN s 3 from by rw [hq, List.take_of_length_le (by omega)]; rfl).trans (Eq.symm ((of_no hb19).trans ((of_no hb27).trans ((of_no hb44).trans (qeu hb73)))))) (HM.own (i := 1) rfl) hco HM.below)
 refine qc HF rfl (wp_seq (qa ?_))
 refine fp HF 2 0 [(91, .bool ((nm).toList == ((ByteArray.mk #[99, 117, 114, 114, 101, 110, 116])).toList))] fun a HF => ?_
 refine qb rfl ?_
 rcases HF.tf 91 rfl with ⟨hb91, HF⟩ | ⟨hb91, HF⟩
 ·
  refine qd HF rfl (wp_seq (qa ?_))
  refine fp HF 1 0 [(9, vI 0)] fun a HF => ?_
  refine qb rfl (wp_block ?_)
  refine qo (fun mS aS wS => ∃ (k : Nat) (q : List Nat) (Ao : Option Addr) (co : Nat), (k ≤ s.st.cu.length) ∧ (q = (s.st.cu.take k).map toU) ∧ (q.length ≤ k) ∧ (q.length ≤ co) ∧ mS = s.st.cu.length - k ∧ Fr aS 223 [] [(9, vI k), (91, .bool true), (73, .bool false), (44, .bool false), (27, .bool false), (19, .bool false), (18, .string nm), (6, vP g6 0), (5, .slice Ao q.length co), (4, .slice none 0 0), (2, vP g2 0)] ∧ Mem w wS [.blk g6 s.st.cells 30, .row (.slice Ao q.length co) q.length (q.map U64) 22 1, .blk g2 s.cells 56]) (m := s.st.cu.length - 0) ⟨0, [], none, 0, Nat.zero_le _, rfl, Nat.le_refl _, Nat.le_refl _, rfl, HF.sub (by kernel_rfl), HM.picks [0, 1, 2] (by decide) rfl⟩ ?_
  clear HF HM; rintro mS a w_ ⟨k, q, Ao, co, hk, hq, hql, hco, rfl, HF, HM⟩
  refine wp_seq (wp_seq (qa ?_))
  refine fp HF 2 0 [(94, vP g6 4), (93, vI k)] fun a HF => ?_
  refine fy HF HM 2 rfl rfl rfl (v := .slice s.st.uA s.st.cu.length s.st.uc) (Yl.qf rfl rfl (by kernel_rfl) (fun _ h => h.cell (i := 0) rfl (rfl))) fun a HF => ?_
  refine fy HF HM 3 rfl rfl rfl (Yl.len rfl rfl (by kernel_rfl)) fun a HF => ?_
  refine fp HF 1 4 [(97, .bool (decide ((k : Int) < (s.st.cu.length : Int))))] fun a HF => ?_
  refine qb rfl ?_
  rcases HF.tf 97 rfl with ⟨hb97, HF⟩ | ⟨hb97, HF⟩
  ·
   have hd97 := of_decide_eq_true hb97
   refine qd HF rfl (wp_skip (wp_seq (wp_block (qa ?_))))
   refine fp HF 2 0 [(101, vP g6 4), (100, .slice Ao q.length co)] fun a HF => ?_
   refine fy HF HM 2 rfl rfl rfl (v := .slice s.st.uA s.st.cu.length s.st.uc) (Yl.qf rfl rfl (by kernel_rfl) (fun _ h => h.cell (i := 0) rfl (rfl))) fun a HF => ?_
   refine fp HF 1 3 [(103, vI k)] fun a HF => ?_
   obtain ⟨gq3, oq3, hq3, _⟩ := Rd.qp hx.u (Nat.lt_of_le_of_lt (Nat.zero_le _) (show k < s.st.cu.length from by omega)) (by decide)
   have hrq3 := hx.u; rw [hq3] at hrq3
   replace HF := HF.as (t := 102) (u := .slice (some ⟨gq3, oq3, none⟩) s.st.cu.length s.st.uc) rfl (by rw [hq3]; try rfl)
   refine fy HF HM 4 rfl rfl rfl (v := vP gq3 (oq3 + k * 1)) (Yl.ix gq3 oq3 k 1 rfl rfl rfl) fun a HF => ?_
   refine fy HF HM 5 rfl rfl rfl (v := vI (s.st.cu.getD k 0)) (Yl.qf rfl rfl (by kernel_rfl) (fun _ h => (h.old hrq3).q7 (k := k) (qz (F := I64i) (k := k) (x := (s.st.cu.getD k 0)) ((getD_at 0 (by omega)))))) fun a HF => ?_
   refine fp HF 1 6 [(106, vQ (IntKind.u64.wrap (s.st.cu.getD k 0)))] fun a HF => ?_
   replace HF := HF.sp 106 (vQ (toU (s.st.cu.getD k 0))) rfl (zb _)
   refine fo HF 7 rfl rfl ?_
   refine qt HF HM (vs := [(0, vQ (toU (s.st.cu.getD k 0)))]) (cs := #[vQ (toU (s.st.cu.getD k 0))]) rfl za (by decide) rfl (by kernel_rfl) rfl (by decide) ?_
   clear HF HM; intro a w107 g107 HF HM
   refine fo HF 8 rfl rfl ?_
   refine qw HF HM (i := 2) rfl za rfl rfl rfl (news := ([toU (s.st.cu.getD k 0)].map U64)) (HM.rdBlk (i := 0) (n := 1) (size := 1) rfl rfl) (zn _) (by omega) (by omega) rfl (by decide) ?_
   clear HF HM; intro a w108 A108 c108 HF HM hc108
   refine fp HF 1 9 [(5, .slice A108 (q.length + 1) c108)] fun a HF => ?_
   refine qb rfl ?_
   have hnA108 : q.length + 1 = (q ++ [toU (s.st.cu.getD k 0)]).length := zd rfl
   replace HM := HM.reRow (i := 2) (ys := (q ++ [toU (s.st.cu.getD k 0)]).map U64) rfl hnA108 (List.map_append.symm)
   rw [hnA108] at hc108
   replace HF := HF.as (t := 5) (u := .slice A108 ((q ++ [toU (s.st.cu.getD k 0)]).length) c108) rfl (by rw [hnA108])
   replace HF := HF.as (t := 108) (u := .slice A108 ((q ++ [toU (s.st.cu.getD k 0)]).length) c108) rfl (by rw [hnA108])
   refine qa ?_
   refine fp HF 2 0 [(99, vI (IntKind.i64.wrap ((k : Int) + 1)))] fun a HF => ?_
   replace HF := HF.sp 99 (vI (k + 1 : Nat)) rfl (qi (by omega) (by omega))
   refine fp HF 1 2 [(9, vI (k + 1 : Nat))] fun a HF => ?_
   refine qb rfl ?_
   exact ⟨_, (by omega), k + 1, (q ++ [toU (s.st.cu.getD k 0)]), A108, c108, by omega, by rw [hq, qca (by omega)], by rw [List.length_append, show [toU (s.st.cu.getD k 0)].length = 1 from rfl]; omega, hc108, rfl, HF.sub (by kernel_rfl), HM.picks [1, 2, 3] (by decide) rfl⟩
  have hd97 := of_decide_eq_false hb97
  refine qc HF rfl (wp_exit (wp_seq (qa ?_)))
  refine fp HF 2 0 [(4, .slice Ao q.length co)] fun a HF => ?_
  refine qb rfl (wp_ret ?_)
  exact ret1 rfl HF (.tmp HF rfl) (ze ((show _ = secN s 4 from by rw [hq, List.take_of_length_le (by omega)]; rfl).trans (Eq.symm ((of_no hb19).trans ((of_no hb27).trans ((of_no hb44).trans ((of_no hb73).trans (qeu hb91))))))) (HM.own (i := 1) rfl) hco HM.below)
 refine qc HF rfl (wp_seq (qa ?_))
 refine fp HF 2 0 [(109, .bool ((nm).toList == ((ByteArray.mk #[116, 97, 115, 107, 115])).toList))] fun a HF => ?_
 refine qb rfl ?_
 rcases HF.tf 109 rfl with ⟨hb109, HF⟩ | ⟨hb109, HF⟩
 ·
  refine qd HF rfl (wp_seq (qa ?_))
  refine fp HF 2 0 [(112, vP g6 5), (111, .slice none 0 0)] fun a HF => ?_
  refine fy HF HM 2 rfl rfl rfl (v := .slice s.st.tA s.st.ts.length s.st.tc) (Yl.qf rfl rfl (by kernel_rfl) (fun _ h => h.cell (i := 0) rfl (rfl))) fun a HF => ?_
  refine fy HF HM 3 rfl rfl rfl (Yl.len rfl rfl (by kernel_rfl)) fun a HF => ?_
  refine fp HF 1 4 [(115, vQ (IntKind.u64.wrap (s.st.ts.length : Int)))] fun a HF => ?_
  replace HF := HF.sp 115 (vQ s.st.ts.length) rfl (qah rfl (by omega))
  refine fo HF 5 rfl rfl ?_
  refine qt HF HM (vs := [(0, vQ s.st.ts.length)]) (cs := #[vQ s.st.ts.length]) rfl za (by decide) rfl (by kernel_rfl) rfl (by decide) ?_
  clear HF HM; intro a w116 g116 HF HM
  refine fo HF 6 rfl rfl ?_
  refine qw HF HM (i := 2) rfl za rfl rfl rfl (news := ([s.st.ts.length].map U64)) (HM.rdBlk (i := 0) (n := 1) (size := 1) rfl rfl) (zn _) (by omega) (by omega) rfl (by decide) ?_
  clear HF HM; intro a w117 A117 c117 HF HM hc117
  refine fp HF 1 7 [(5, .slice A117 (0 + 1) c117)] fun a HF => ?_
  refine qb rfl ?_
  have hnA117 : 0 + 1 = [s.st.ts.length].length := rfl
  replace HM := HM.reRow (i := 2) (ys := [s.st.ts.length].map U64) rfl hnA117 (rfl)
  rw [hnA117] at hc117
  replace HF := HF.as (t := 5) (u := .slice A117 ([s.st.ts.length].length) c117) rfl (by rw [hnA117])
  replace HF := HF.as (t := 117) (u := .slice A117 ([s.st.ts.length].length) c117) rfl (by rw [hnA117])
  refine wp_seq (qa ?_)
  refine fp HF 1 0 [(10, vI 0)] fun a HF => ?_
  refine qb rfl (wp_block ?_)
  refine qo (fun mS aS wS => ∃ (i : Nat) (q : List Nat) (Ao : Option Addr) (co : Nat), (i ≤ s.st.ts.length) ∧ (0 ≤ qn s.st.ts i ∧ qn s.st.ts i ≤ 65535) ∧ (q = [s.st.ts.length] ++ upF i fun i => tkN (qn s.st.ts i) (s.st.ts.getD i Tk.zero)) ∧ (q.length ≤ 8 * i + 1) ∧ (q.length ≤ co) ∧ mS = s.st.ts.length - i ∧ Fr aS 223 [] [(10, vI i), (117, .slice A117 ([s.st.ts.length].length) c117), (5, .slice Ao q.length co), (109, .bool true), (91, .bool false), (73, .bool false), (44, .bool false), (27, .bool false), (19, .bool false), (18, .string nm), (6, vP g6 0), (4, .slice none 0 0), (2, vP g2 0)] ∧ Mem w wS [.blk g116 #[vQ s.st.ts.length] 22, .blk g6 s.st.cells 30, .row (.slice Ao q.length co) q.length (q.map U64) 22 1, .blk g2 s.cells 56]) (m := s.st.ts.length - 0) ⟨0, [s.st.ts.length], A117, c117, Nat.zero_le _, by rw [qfm]; decide, by rw [qbl, List.append_nil], Nat.le_refl _, hc117, rfl, HF.sub (by kernel_rfl), HM.picks [0, 1, 2, 3] (by decide) rfl⟩ ?_
  clear HF HM; rintro mS a w_ ⟨i, q, Ao, co, hi, hp, hq, hql, hco, rfl, HF, HM⟩
  refine wp_seq (wp_seq (qa ?_))
  refine fp HF 2 0 [(119, vP g6 5), (118, vI i)] fun a HF => ?_
  refine fy HF HM 2 rfl rfl rfl (v := .slice s.st.tA s.st.ts.length s.st.tc) (Yl.qf rfl rfl (by kernel_rfl) (fun _ h => h.cell (i := 1) rfl (rfl))) fun a HF => ?_
  refine fy HF HM 3 rfl rfl rfl (Yl.len rfl rfl (by kernel_rfl)) fun a HF => ?_
  refine fp HF 1 4 [(122, .bool (decide ((i : Int) < (s.st.ts.length : Int))))] fun a HF => ?_
  refine qb rfl ?_
  rcases HF.tf 122 rfl with ⟨hb122, HF⟩ | ⟨hb122, HF⟩
  ·
   have hd122 := of_decide_eq_true hb122
   have hi122 : i < s.st.ts.length := by omega
   obtain ⟨t, ht⟩ : ∃ z, (s.st.ts.getD i Tk.zero) = z := ⟨_, rfl⟩
   have htid := tk_id (hsh.tk i hi122)
   rw [ht] at htid
   have hto := hok.ts _ (q5 Tk.zero hi122)
   replace hto : Tk.Ok t := by rw [← ht]; exact hto
   have htr := hto.r
   refine qd HF rfl (wp_skip (wp_seq (wp_block (wp_seq (qa ?_)))))
   refine fp HF 1 0 [(125, vP g6 5)] fun a HF => ?_
   refine fy HF HM 1 rfl rfl rfl (v := .slice s.st.tA s.st.ts.length s.st.tc) (Yl.qf rfl rfl (by kernel_rfl) (fun _ h => h.cell (i := 1) rfl (rfl))) fun a HF => ?_
   refine fp HF 1 2 [(127, vI i)] fun a HF => ?_
   obtain ⟨gq4, oq4, hq4, _⟩ := Rd.qp hx.t (Nat.lt_of_le_of_lt (Nat.zero_le _) (show i < s.st.ts.length from by omega)) (by decide)
   have hrq4 := hx.t; rw [hq4] at hrq4
   replace HF := HF.as (t := 126) (u := .slice (some ⟨gq4, oq4, none⟩) s.st.ts.length s.st.tc) rfl (by rw [hq4]; try rfl)
   refine fy HF HM 3 rfl rfl rfl (v := vP gq4 (oq4 + i * 8)) (Yl.ix gq4 oq4 i 8 rfl rfl rfl) fun a HF => ?_
   refine fy HF HM 4 rfl rfl rfl (v := .agg ((s.st.ts.getD i Tk.zero).cells)) (Yl.qr rfl rfl si_tk rfl (fun _ h => (h.old hrq4).q6 zf ((getD_at Tk.zero hi122)))) fun a HF => ?_
   replace HF := HF.sp 129 (.agg t.cells) rfl (by rw [ht])
   refine fo HF 5 rfl rfl ?_
   refine qs HF HM (cs := #[vI 0, vI 0, vI 0, vI 0, vQ 0, .bool false, vQ 0, vW 0]) rfl (by kernel_rfl) rfl (by decide) ?_
   clear HF HM; intro a w11 g11 HF HM
   refine fo HF 6 rfl rfl ?_
   refine e_sa HF HM 0 rfl rfl rfl rfl rfl si_tk rfl rfl (qgg t) ?_
   clear HM; intro w28_6 HM
   refine qb rfl (wp_seq (qa ?_))
   refine fp HF 1 0 [(130, vP g11 0)] fun a HF => ?_
   refine fy HF HM 1 rfl rfl rfl (v := vI t.id) (Yl.qf rfl rfl (by kernel_rfl) (fun _ h => h.cell (i := 0) rfl (rfl))) fun a HF => ?_
   refine fp HF 1 2 [(12, vI t.id)] fun a HF => ?_
   refine qb rfl (wp_seq (wp_seq (qa ?_)))
   refine fp HF 2 0 [(133, .bool (decide ((i : Int) > (0 : Int))))] fun a HF => ?_
   refine qb rfl ?_
   rcases HF.tf 133 rfl with ⟨hb133, HF⟩ | ⟨hb133, HF⟩
   ·
    have hd133 := of_decide_eq_true hb133
    have hpp := qna (l := s.st.ts) (show 0 < i by omega)
    refine qd HF rfl (qa ?_)
    refine fp HF 2 0 [(135, vP g6 5), (134, vI t.id)] fun a HF => ?_
    refine fy HF HM 2 rfl rfl rfl (v := .slice s.st.tA s.st.ts.length s.st.tc) (Yl.qf rfl rfl (by kernel_rfl) (fun _ h => h.cell (i := 2) rfl (rfl))) fun a HF => ?_
    refine fp HF 2 3 [(138, vI (IntKind.i64.wrap ((i : Int) - 1)))] fun a HF => ?_
    replace HF := HF.sp 138 (vI (i - 1 : Nat)) rfl (qi (by omega) (by omega))
    replace HF := HF.as (t := 136) (u := .slice (some ⟨gq4, oq4, none⟩) s.st.ts.length s.st.tc) rfl (by rw [hq4]; try rfl)
    refine fy HF HM 5 rfl rfl rfl (v := vP gq4 (oq4 + (i - 1) * 8)) (Yl.ix gq4 oq4 (i - 1) 8 rfl rfl rfl) fun a HF => ?_
    refine fp HF 1 6 [(140, vP gq4 (oq4 + (i - 1) * 8))] fun a HF => ?_
    refine fy HF HM 7 rfl rfl rfl (v := vI ((s.st.ts.getD (i - 1) Tk.zero).id)) (Yl.qf rfl rfl (by kernel_rfl) (fun _ h => (by have := (h.old hrq4).partAt zf (k := (i - 1)) (j := 0) (x := (s.st.ts.getD (i - 1) Tk.zero)) ((getD_at Tk.zero (by omega))) rfl; simpa using this))) fun a HF => ?_
    refine fp HF 1 8 [(142, vI (IntKind.i64.wrap (t.id - ((s.st.ts.getD (i - 1) Tk.zero).id))))] fun a HF => ?_
    replace HF := HF.sp 142 (vI (t.id - qn s.st.ts i)) rfl (by rw [hpp]; exact qin ⟨by omega, by omega⟩)
    refine fp HF 1 9 [(12, vI (t.id - qn s.st.ts i))] fun a HF => ?_
    refine qb rfl (wp_seq (qa ?_))
    refine fp HF 1 0 [(13, vQ 0)] fun a HF => ?_
    refine qb rfl (wp_seq (wp_seq (qa ?_)))
    refine fp HF 1 0 [(143, vP g11 5)] fun a HF => ?_
    refine fy HF HM 1 rfl rfl rfl (v := .bool t.ready) (Yl.qf rfl rfl (by kernel_rfl) (fun _ h => h.cell (i := 0) rfl (rfl))) fun a HF => ?_
    refine qb rfl ?_
    rcases HF.tf 144 rfl with ⟨hb144, HF⟩ | ⟨hb144, HF⟩
    ·
     refine qd HF rfl (qa ?_)
     refine fp HF 1 0 [(13, vQ 1)] fun a HF => ?_
     refine qb rfl (qa ?_)
     refine fp HF 3 0 [(147, vQ (IntKind.u64.wrap (t.id - qn s.st.ts i))), (145, .slice Ao q.length co)] fun a HF => ?_
     replace HF := HF.sp 147 (vQ (toU (t.id - qn s.st.ts i))) rfl (zb _)
     refine fp HF 1 3 [(148, vP g11 1)] fun a HF => ?_
     refine fy HF HM 4 rfl rfl rfl (v := vI t.group) (Yl.qf rfl rfl (by kernel_rfl) (fun _ h => h.cell (i := 0) rfl (rfl))) fun a HF => ?_
     refine fp HF 1 5 [(150, vQ (IntKind.u64.wrap t.group))] fun a HF => ?_
     replace HF := HF.sp 150 (vQ (toU t.group)) rfl (zb _)
     refine fp HF 1 6 [(151, vP g11 2)] fun a HF => ?_
     refine fy HF HM 7 rfl rfl rfl (v := vI t.weight) (Yl.qf rfl rfl (by kernel_rfl) (fun _ h => h.cell (i := 0) rfl (rfl))) fun a HF => ?_
     refine fp HF 1 8 [(153, vQ (IntKind.u64.wrap t.weight))] fun a HF => ?_
     replace HF := HF.sp 153 (vQ (toU t.weight)) rfl (zb _)
     refine fp HF 1 9 [(154, vP g11 3)] fun a HF => ?_
     refine fy HF HM 10 rfl rfl rfl (v := vI t.cpu) (Yl.qf rfl rfl (by kernel_rfl) (fun _ h => h.cell (i := 0) rfl (rfl))) fun a HF => ?_
     refine fp HF 1 11 [(156, vQ (IntKind.u64.wrap t.cpu))] fun a HF => ?_
     replace HF := HF.sp 156 (vQ (toU t.cpu)) rfl (zb _)
     refine fp HF 1 12 [(157, vP g11 4)] fun a HF => ?_
     refine fy HF HM 13 rfl rfl rfl (v := vQ t.mask) (Yl.qf rfl rfl (by kernel_rfl) (fun _ h => h.cell (i := 0) rfl (rfl))) fun a HF => ?_
     refine fp HF 2 14 [(160, vP g11 6), (159, vQ 1)] fun a HF => ?_
     refine fy HF HM 16 rfl rfl rfl (v := vQ t.v) (Yl.qf rfl rfl (by kernel_rfl) (fun _ h => h.cell (i := 0) rfl (rfl))) fun a HF => ?_
     refine fp HF 1 17 [(162, vP g11 7)] fun a HF => ?_
     refine fy HF HM 18 rfl rfl rfl (v := vW t.r) (Yl.qf rfl rfl (by kernel_rfl) (fun _ h => h.cell (i := 0) rfl (rfl))) fun a HF => ?_
     refine fp HF 1 19 [(164, vQ (IntKind.u64.wrap (t.r : Int)))] fun a HF => ?_
     replace HF := HF.sp 164 (vQ t.r) rfl (qah rfl (by omega))
     refine fo HF 20 rfl rfl ?_
     refine qt HF HM (vs := [(0, vQ (toU (t.id - qn s.st.ts i))), (1, vQ (toU t.group)), (2, vQ (toU t.weight)), (3, vQ (toU t.cpu)), (4, vQ t.mask), (5, vQ 1), (6, vQ t.v), (7, vQ t.r)]) (cs := #[vQ (toU (t.id - qn s.st.ts i)), vQ (toU t.group), vQ (toU t.weight), vQ (toU t.cpu), vQ t.mask, vQ 1, vQ t.v, vQ t.r]) rfl za (by decide) rfl (by kernel_rfl) rfl (by decide) ?_
     clear HF HM; intro a w165 g165 HF HM
     refine fo HF 21 rfl rfl ?_
     refine qw HF HM (i := 4) rfl za rfl rfl rfl (news := ([toU (t.id - qn s.st.ts i), toU t.group, toU t.weight, toU t.cpu, t.mask, 1, t.v, t.r].map U64)) (HM.rdBlk (i := 0) (n := 8) (size := 1) rfl rfl) (zn _) (by omega) (by omega) rfl (by decide) ?_
     clear HF HM; intro a w166 A166 c166 HF HM hc166
     refine fp HF 1 22 [(5, .slice A166 (q.length + 8) c166)] fun a HF => ?_
     refine qb rfl ?_
     replace HF := HF.to [(5, .slice A166 (q.length + 8) c166), (13, vQ 1), (144, .bool true), (12, vI (t.id - qn s.st.ts i)), (133, .bool true), (11, vP g11 0), (122, .bool true), (10, vI i), (117, .slice A117 ([s.st.ts.length].length) c117), (109, .bool true), (91, .bool false), (73, .bool false), (44, .bool false), (27, .bool false), (19, .bool false), (18, .string nm), (6, vP g6 0), (4, .slice none 0 0), (2, vP g2 0)]
     have hnA166 : q.length + 8 = (q ++ [toU (t.id - qn s.st.ts i), toU t.group, toU t.weight, toU t.cpu, t.mask, 1, t.v, t.r]).length := zd rfl
     replace HM := HM.reRow (i := 4) (ys := (q ++ [toU (t.id - qn s.st.ts i), toU t.group, toU t.weight, toU t.cpu, t.mask, 1, t.v, t.r]).map U64) rfl hnA166 (List.map_append.symm)
     rw [hnA166] at hc166
     replace HF := HF.as (t := 5) (u := .slice A166 ((q ++ [toU (t.id - qn s.st.ts i), toU t.group, toU t.weight, toU t.cpu, t.mask, 1, t.v, t.r]).length) c166) rfl (by rw [hnA166])
     refine qa ?_
     refine fp HF 2 0 [(124, vI (IntKind.i64.wrap ((i : Int) + 1)))] fun a HF => ?_
     replace HF := HF.sp 124 (vI (i + 1 : Nat)) rfl (qi (by omega) (by omega))
     refine fp HF 1 2 [(10, vI (i + 1 : Nat))] fun a HF => ?_
     refine qb rfl ?_
     exact ⟨_, (by omega), i + 1, (q ++ [toU (t.id - qn s.st.ts i), toU t.group, toU t.weight, toU t.cpu, t.mask, 1, t.v, t.r]), A166, c166, by omega, by rw [zy, ht]; omega, by rw [hq, qv, ht, List.append_assoc]; unfold tkN; rw [hb144]; rfl, by rw [List.length_append, show [toU (t.id - qn s.st.ts i), toU t.group, toU t.weight, toU t.cpu, t.mask, 1, t.v, t.r].length = 8 from rfl]; omega, hc166, rfl, HF.sub (by kernel_rfl), HM.picks [2, 3, 4, 5] (by decide) rfl⟩
    refine qc HF rfl (wp_skip (qa ?_))
    refine fp HF 3 0 [(147, vQ (IntKind.u64.wrap (t.id - qn s.st.ts i))), (145, .slice Ao q.length co)] fun a HF => ?_
    replace HF := HF.sp 147 (vQ (toU (t.id - qn s.st.ts i))) rfl (zb _)
    refine fp HF 1 3 [(148, vP g11 1)] fun a HF => ?_
    refine fy HF HM 4 rfl rfl rfl (v := vI t.group) (Yl.qf rfl rfl (by kernel_rfl) (fun _ h => h.cell (i := 0) rfl (rfl))) fun a HF => ?_
    refine fp HF 1 5 [(150, vQ (IntKind.u64.wrap t.group))] fun a HF => ?_
    replace HF := HF.sp 150 (vQ (toU t.group)) rfl (zb _)
    refine fp HF 1 6 [(151, vP g11 2)] fun a HF => ?_
    refine fy HF HM 7 rfl rfl rfl (v := vI t.weight) (Yl.qf rfl rfl (by kernel_rfl) (fun _ h => h.cell (i := 0) rfl (rfl))) fun a HF => ?_
    refine fp HF 1 8 [(153, vQ (IntKind.u64.wrap t.weight))] fun a HF => ?_
    replace HF := HF.sp 153 (vQ (toU t.weight)) rfl (zb _)
    refine fp HF 1 9 [(154, vP g11 3)] fun a HF => ?_
    refine fy HF HM 10 rfl rfl rfl (v := vI t.cpu) (Yl.qf rfl rfl (by kernel_rfl) (fun _ h => h.cell (i := 0) rfl (rfl))) fun a HF => ?_
    refine fp HF 1 11 [(156, vQ (IntKind.u64.wrap t.cpu))] fun a HF => ?_
    replace HF := HF.sp 156 (vQ (toU t.cpu)) rfl (zb _)
    refine fp HF 1 12 [(157, vP g11 4)] fun a HF => ?_
    refine fy HF HM 13 rfl rfl rfl (v := vQ t.mask) (Yl.qf rfl rfl (by kernel_rfl) (fun _ h => h.cell (i := 0) rfl (rfl))) fun a HF => ?_
    refine fp HF 2 14 [(160, vP g11 6), (159, vQ 0)] fun a HF => ?_
    refine fy HF HM 16 rfl rfl rfl (v := vQ t.v) (Yl.qf rfl rfl (by kernel_rfl) (fun _ h => h.cell (i := 0) rfl (rfl))) fun a HF => ?_
    refine fp HF 1 17 [(162, vP g11 7)] fun a HF => ?_
    refine fy HF HM 18 rfl rfl rfl (v := vW t.r) (Yl.qf rfl rfl (by kernel_rfl) (fun _ h => h.cell (i := 0) rfl (rfl))) fun a HF => ?_
    refine fp HF 1 19 [(164, vQ (IntKind.u64.wrap (t.r : Int)))] fun a HF => ?_
    replace HF := HF.sp 164 (vQ t.r) rfl (qah rfl (by omega))
    refine fo HF 20 rfl rfl ?_
    refine qt HF HM (vs := [(0, vQ (toU (t.id - qn s.st.ts i))), (1, vQ (toU t.group)), (2, vQ (toU t.weight)), (3, vQ (toU t.cpu)), (4, vQ t.mask), (5, vQ 0), (6, vQ t.v), (7, vQ t.r)]) (cs := #[vQ (toU (t.id - qn s.st.ts i)), vQ (toU t.group), vQ (toU t.weight), vQ (toU t.cpu), vQ t.mask, vQ 0, vQ t.v, vQ t.r]) rfl za (by decide) rfl (by kernel_rfl) rfl (by decide) ?_
    clear HF HM; intro a w165 g165 HF HM
    refine fo HF 21 rfl rfl ?_
    refine qw HF HM (i := 4) rfl za rfl rfl rfl (news := ([toU (t.id - qn s.st.ts i), toU t.group, toU t.weight, toU t.cpu, t.mask, 0, t.v, t.r].map U64)) (HM.rdBlk (i := 0) (n := 8) (size := 1) rfl rfl) (zn _) (by omega) (by omega) rfl (by decide) ?_
    clear HF HM; intro a w166 A166 c166 HF HM hc166
    refine fp HF 1 22 [(5, .slice A166 (q.length + 8) c166)] fun a HF => ?_
    refine qb rfl ?_
    replace HF := HF.to [(5, .slice A166 (q.length + 8) c166), (144, .bool false), (13, vQ 0), (12, vI (t.id - qn s.st.ts i)), (133, .bool true), (11, vP g11 0), (122, .bool true), (10, vI i), (117, .slice A117 ([s.st.ts.length].length) c117), (109, .bool true), (91, .bool false), (73, .bool false), (44, .bool false), (27, .bool false), (19, .bool false), (18, .string nm), (6, vP g6 0), (4, .slice none 0 0), (2, vP g2 0)]
    have hnA166 : q.length + 8 = (q ++ [toU (t.id - qn s.st.ts i), toU t.group, toU t.weight, toU t.cpu, t.mask, 0, t.v, t.r]).length := zd rfl
    replace HM := HM.reRow (i := 4) (ys := (q ++ [toU (t.id - qn s.st.ts i), toU t.group, toU t.weight, toU t.cpu, t.mask, 0, t.v, t.r]).map U64) rfl hnA166 (List.map_append.symm)
    rw [hnA166] at hc166
    replace HF := HF.as (t := 5) (u := .slice A166 ((q ++ [toU (t.id - qn s.st.ts i), toU t.group, toU t.weight, toU t.cpu, t.mask, 0, t.v, t.r]).length) c166) rfl (by rw [hnA166])
    refine qa ?_
    refine fp HF 2 0 [(124, vI (IntKind.i64.wrap ((i : Int) + 1)))] fun a HF => ?_
    replace HF := HF.sp 124 (vI (i + 1 : Nat)) rfl (qi (by omega) (by omega))
    refine fp HF 1 2 [(10, vI (i + 1 : Nat))] fun a HF => ?_
    refine qb rfl ?_
    exact ⟨_, (by omega), i + 1, (q ++ [toU (t.id - qn s.st.ts i), toU t.group, toU t.weight, toU t.cpu, t.mask, 0, t.v, t.r]), A166, c166, by omega, by rw [zy, ht]; omega, by rw [hq, qv, ht, List.append_assoc]; unfold tkN; rw [hb144]; rfl, by rw [List.length_append, show [toU (t.id - qn s.st.ts i), toU t.group, toU t.weight, toU t.cpu, t.mask, 0, t.v, t.r].length = 8 from rfl]; omega, hc166, rfl, HF.sub (by kernel_rfl), HM.picks [2, 3, 4, 5] (by decide) rfl⟩
   have hd133 := of_decide_eq_false hb133
   replace HF := HF.as (t := 12) (u := vI (t.id - qn s.st.ts i)) rfl (by rw [qqn (by omega), Int.sub_zero])
   refine qc HF rfl (wp_skip (wp_seq (qa ?_)))
   refine fp HF 1 0 [(13, vQ 0)] fun a HF => ?_
   refine qb rfl (wp_seq (wp_seq (qa ?_)))
   refine fp HF 1 0 [(143, vP g11 5)] fun a HF => ?_
   refine fy HF HM 1 rfl rfl rfl (v := .bool t.ready) (Yl.qf rfl rfl (by kernel_rfl) (fun _ h => h.cell (i := 0) rfl (rfl))) fun a HF => ?_
   refine qb rfl ?_
   rcases HF.tf 144 rfl with ⟨hb144, HF⟩ | ⟨hb144, HF⟩
   ·
    refine qd HF rfl (qa ?_)
    refine fp HF 1 0 [(13, vQ 1)] fun a HF => ?_
    refine qb rfl (qa ?_)
    refine fp HF 3 0 [(147, vQ (IntKind.u64.wrap (t.id - qn s.st.ts i))), (145, .slice Ao q.length co)] fun a HF => ?_
    replace HF := HF.sp 147 (vQ (toU (t.id - qn s.st.ts i))) rfl (zb _)
    refine fp HF 1 3 [(148, vP g11 1)] fun a HF => ?_
    refine fy HF HM 4 rfl rfl rfl (v := vI t.group) (Yl.qf rfl rfl (by kernel_rfl) (fun _ h => h.cell (i := 0) rfl (rfl))) fun a HF => ?_
    refine fp HF 1 5 [(150, vQ (IntKind.u64.wrap t.group))] fun a HF => ?_
    replace HF := HF.sp 150 (vQ (toU t.group)) rfl (zb _)
    refine fp HF 1 6 [(151, vP g11 2)] fun a HF => ?_
    refine fy HF HM 7 rfl rfl rfl (v := vI t.weight) (Yl.qf rfl rfl (by kernel_rfl) (fun _ h => h.cell (i := 0) rfl (rfl))) fun a HF => ?_
    refine fp HF 1 8 [(153, vQ (IntKind.u64.wrap t.weight))] fun a HF => ?_
    replace HF := HF.sp 153 (vQ (toU t.weight)) rfl (zb _)
    refine fp HF 1 9 [(154, vP g11 3)] fun a HF => ?_
    refine fy HF HM 10 rfl rfl rfl (v := vI t.cpu) (Yl.qf rfl rfl (by kernel_rfl) (fun _ h => h.cell (i := 0) rfl (rfl))) fun a HF => ?_
    refine fp HF 1 11 [(156, vQ (IntKind.u64.wrap t.cpu))] fun a HF => ?_
    replace HF := HF.sp 156 (vQ (toU t.cpu)) rfl (zb _)
    refine fp HF 1 12 [(157, vP g11 4)] fun a HF => ?_
    refine fy HF HM 13 rfl rfl rfl (v := vQ t.mask) (Yl.qf rfl rfl (by kernel_rfl) (fun _ h => h.cell (i := 0) rfl (rfl))) fun a HF => ?_
    refine fp HF 2 14 [(160, vP g11 6), (159, vQ 1)] fun a HF => ?_
    refine fy HF HM 16 rfl rfl rfl (v := vQ t.v) (Yl.qf rfl rfl (by kernel_rfl) (fun _ h => h.cell (i := 0) rfl (rfl))) fun a HF => ?_
    refine fp HF 1 17 [(162, vP g11 7)] fun a HF => ?_
    refine fy HF HM 18 rfl rfl rfl (v := vW t.r) (Yl.qf rfl rfl (by kernel_rfl) (fun _ h => h.cell (i := 0) rfl (rfl))) fun a HF => ?_
    refine fp HF 1 19 [(164, vQ (IntKind.u64.wrap (t.r : Int)))] fun a HF => ?_
    replace HF := HF.sp 164 (vQ t.r) rfl (qah rfl (by omega))
    refine fo HF 20 rfl rfl ?_
    refine qt HF HM (vs := [(0, vQ (toU (t.id - qn s.st.ts i))), (1, vQ (toU t.group)), (2, vQ (toU t.weight)), (3, vQ (toU t.cpu)), (4, vQ t.mask), (5, vQ 1), (6, vQ t.v), (7, vQ t.r)]) (cs := #[vQ (toU (t.id - qn s.st.ts i)), vQ (toU t.group), vQ (toU t.weight), vQ (toU t.cpu), vQ t.mask, vQ 1, vQ t.v, vQ t.r]) rfl za (by decide) rfl (by kernel_rfl) rfl (by decide) ?_
    clear HF HM; intro a w165 g165 HF HM
    refine fo HF 21 rfl rfl ?_
    refine qw HF HM (i := 4) rfl za rfl rfl rfl (news := ([toU (t.id - qn s.st.ts i), toU t.group, toU t.weight, toU t.cpu, t.mask, 1, t.v, t.r].map U64)) (HM.rdBlk (i := 0) (n := 8) (size := 1) rfl rfl) (zn _) (by omega) (by omega) rfl (by decide) ?_
    clear HF HM; intro a w166 A166 c166 HF HM hc166
    refine fp HF 1 22 [(5, .slice A166 (q.length + 8) c166)] fun a HF => ?_
    refine qb rfl ?_
    replace HF := HF.to [(5, .slice A166 (q.length + 8) c166), (13, vQ 1), (144, .bool true), (12, vI (t.id - qn s.st.ts i)), (133, .bool false), (11, vP g11 0), (122, .bool true), (10, vI i), (117, .slice A117 ([s.st.ts.length].length) c117), (109, .bool true), (91, .bool false), (73, .bool false), (44, .bool false), (27, .bool false), (19, .bool false), (18, .string nm), (6, vP g6 0), (4, .slice none 0 0), (2, vP g2 0)]
    have hnA166 : q.length + 8 = (q ++ [toU (t.id - qn s.st.ts i), toU t.group, toU t.weight, toU t.cpu, t.mask, 1, t.v, t.r]).length := zd rfl
    replace HM := HM.reRow (i := 4) (ys := (q ++ [toU (t.id - qn s.st.ts i), toU t.group, toU t.weight, toU t.cpu, t.mask, 1, t.v, t.r]).map U64) rfl hnA166 (List.map_append.symm)
    rw [hnA166] at hc166
    replace HF := HF.as (t := 5) (u := .slice A166 ((q ++ [toU (t.id - qn s.st.ts i), toU t.group, toU t.weight, toU t.cpu, t.mask, 1, t.v, t.r]).length) c166) rfl (by rw [hnA166])
    refine qa ?_
    refine fp HF 2 0 [(124, vI (IntKind.i64.wrap ((i : Int) + 1)))] fun a HF => ?_
    replace HF := HF.sp 124 (vI (i + 1 : Nat)) rfl (qi (by omega) (by omega))
    refine fp HF 1 2 [(10, vI (i + 1 : Nat))] fun a HF => ?_
    refine qb rfl ?_
    exact ⟨_, (by omega), i + 1, (q ++ [toU (t.id - qn s.st.ts i), toU t.group, toU t.weight, toU t.cpu, t.mask, 1, t.v, t.r]), A166, c166, by omega, by rw [zy, ht]; omega, by rw [hq, qv, ht, List.append_assoc]; unfold tkN; rw [hb144]; rfl, by rw [List.length_append, show [toU (t.id - qn s.st.ts i), toU t.group, toU t.weight, toU t.cpu, t.mask, 1, t.v, t.r].length = 8 from rfl]; omega, hc166, rfl, HF.sub (by kernel_rfl), HM.picks [2, 3, 4, 5] (by decide) rfl⟩
   refine qc HF rfl (wp_skip (qa ?_))
   refine fp HF 3 0 [(147, vQ (IntKind.u64.wrap (t.id - qn s.st.ts i))), (145, .slice Ao q.length co)] fun a HF => ?_
   replace HF := HF.sp 147 (vQ (toU (t.id - qn s.st.ts i))) rfl (zb _)
   refine fp HF 1 3 [(148, vP g11 1)] fun a HF => ?_
   refine fy HF HM 4 rfl rfl rfl (v := vI t.group) (Yl.qf rfl rfl (by kernel_rfl) (fun _ h => h.cell (i := 0) rfl (rfl))) fun a HF => ?_
   refine fp HF 1 5 [(150, vQ (IntKind.u64.wrap t.group))] fun a HF => ?_
   replace HF := HF.sp 150 (vQ (toU t.group)) rfl (zb _)
   refine fp HF 1 6 [(151, vP g11 2)] fun a HF => ?_
   refine fy HF HM 7 rfl rfl rfl (v := vI t.weight) (Yl.qf rfl rfl (by kernel_rfl) (fun _ h => h.cell (i := 0) rfl (rfl))) fun a HF => ?_
   refine fp HF 1 8 [(153, vQ (IntKind.u64.wrap t.weight))] fun a HF => ?_
   replace HF := HF.sp 153 (vQ (toU t.weight)) rfl (zb _)
   refine fp HF 1 9 [(154, vP g11 3)] fun a HF => ?_
   refine fy HF HM 10 rfl rfl rfl (v := vI t.cpu) (Yl.qf rfl rfl (by kernel_rfl) (fun _ h => h.cell (i := 0) rfl (rfl))) fun a HF => ?_
   refine fp HF 1 11 [(156, vQ (IntKind.u64.wrap t.cpu))] fun a HF => ?_
   replace HF := HF.sp 156 (vQ (toU t.cpu)) rfl (zb _)
   refine fp HF 1 12 [(157, vP g11 4)] fun a HF => ?_
   refine fy HF HM 13 rfl rfl rfl (v := vQ t.mask) (Yl.qf rfl rfl (by kernel_rfl) (fun _ h => h.cell (i := 0) rfl (rfl))) fun a HF => ?_
   refine fp HF 2 14 [(160, vP g11 6), (159, vQ 0)] fun a HF => ?_
   refine fy HF HM 16 rfl rfl rfl (v := vQ t.v) (Yl.qf rfl rfl (by kernel_rfl) (fun _ h => h.cell (i := 0) rfl (rfl))) fun a HF => ?_
   refine fp HF 1 17 [(162, vP g11 7)] fun a HF => ?_
   refine fy HF HM 18 rfl rfl rfl (v := vW t.r) (Yl.qf rfl rfl (by kernel_rfl) (fun _ h => h.cell (i := 0) rfl (rfl))) fun a HF => ?_
   refine fp HF 1 19 [(164, vQ (IntKind.u64.wrap (t.r : Int)))] fun a HF => ?_
   replace HF := HF.sp 164 (vQ t.r) rfl (qah rfl (by omega))
   refine fo HF 20 rfl rfl ?_
   refine qt HF HM (vs := [(0, vQ (toU (t.id - qn s.st.ts i))), (1, vQ (toU t.group)), (2, vQ (toU t.weight)), (3, vQ (toU t.cpu)), (4, vQ t.mask), (5, vQ 0), (6, vQ t.v), (7, vQ t.r)]) (cs := #[vQ (toU (t.id - qn s.st.ts i)), vQ (toU t.group), vQ (toU t.weight), vQ (toU t.cpu), vQ t.mask, vQ 0, vQ t.v, vQ t.r]) rfl za (by decide) rfl (by kernel_rfl) rfl (by decide) ?_
   clear HF HM; intro a w165 g165 HF HM
   refine fo HF 21 rfl rfl ?_
   refine qw HF HM (i := 4) rfl za rfl rfl rfl (news := ([toU (t.id - qn s.st.ts i), toU t.group, toU t.weight, toU t.cpu, t.mask, 0, t.v, t.r].map U64)) (HM.rdBlk (i := 0) (n := 8) (size := 1) rfl rfl) (zn _) (by omega) (by omega) rfl (by decide) ?_
   clear HF HM; intro a w166 A166 c166 HF HM hc166
   refine fp HF 1 22 [(5, .slice A166 (q.length + 8) c166)] fun a HF => ?_
   refine qb rfl ?_
   replace HF := HF.to [(5, .slice A166 (q.length + 8) c166), (144, .bool false), (13, vQ 0), (12, vI (t.id - qn s.st.ts i)), (133, .bool false), (11, vP g11 0), (122, .bool true), (10, vI i), (117, .slice A117 ([s.st.ts.length].length) c117), (109, .bool true), (91, .bool false), (73, .bool false), (44, .bool false), (27, .bool false), (19, .bool false), (18, .string nm), (6, vP g6 0), (4, .slice none 0 0), (2, vP g2 0)]
   have hnA166 : q.length + 8 = (q ++ [toU (t.id - qn s.st.ts i), toU t.group, toU t.weight, toU t.cpu, t.mask, 0, t.v, t.r]).length := zd rfl
   replace HM := HM.reRow (i := 4) (ys := (q ++ [toU (t.id - qn s.st.ts i), toU t.group, toU t.weight, toU t.cpu, t.mask, 0, t.v, t.r]).map U64) rfl hnA166 (List.map_append.symm)
   rw [hnA166] at hc166
   replace HF := HF.as (t := 5) (u := .slice A166 ((q ++ [toU (t.id - qn s.st.ts i), toU t.group, toU t.weight, toU t.cpu, t.mask, 0, t.v, t.r]).length) c166) rfl (by rw [hnA166])
   refine qa ?_
   refine fp HF 2 0 [(124, vI (IntKind.i64.wrap ((i : Int) + 1)))] fun a HF => ?_
   replace HF := HF.sp 124 (vI (i + 1 : Nat)) rfl (qi (by omega) (by omega))
   refine fp HF 1 2 [(10, vI (i + 1 : Nat))] fun a HF => ?_
   refine qb rfl ?_
   exact ⟨_, (by omega), i + 1, (q ++ [toU (t.id - qn s.st.ts i), toU t.group, toU t.weight, toU t.cpu, t.mask, 0, t.v, t.r]), A166, c166, by omega, by rw [zy, ht]; omega, by rw [hq, qv, ht, List.append_assoc]; unfold tkN; rw [hb144]; rfl, by rw [List.length_append, show [toU (t.id - qn s.st.ts i), toU t.group, toU t.weight, toU t.cpu, t.mask, 0, t.v, t.r].length = 8 from rfl]; omega, hc166, rfl, HF.sub (by kernel_rfl), HM.picks [2, 3, 4, 5] (by decide) rfl⟩
  have hd122 := of_decide_eq_false hb122
  refine qc HF rfl (wp_exit (wp_seq (qa ?_)))
  refine fp HF 2 0 [(4, .slice Ao q.length co)] fun a HF => ?_
  refine qb rfl (wp_ret ?_)
  exact ret1 rfl HF (.tmp HF rfl) (ze ((show _ = secN s 5 from by rw [hq, show i = s.st.ts.length by omega]; rfl).trans (Eq.symm ((of_no hb19).trans ((of_no hb27).trans ((of_no hb44).trans ((of_no hb73).trans ((of_no hb91).trans (qeu hb109)))))))) (HM.own (i := 2) rfl) hco HM.below)
 refine qc HF rfl (wp_seq (qa ?_))
 refine fp HF 2 0 [(167, .bool ((nm).toList == ((ByteArray.mk #[115, 112, 111, 116, 115])).toList))] fun a HF => ?_
 refine qb rfl ?_
 rcases HF.tf 167 rfl with ⟨hb167, HF⟩ | ⟨hb167, HF⟩
 ·
  refine qd HF rfl (wp_seq (qa ?_))
  refine fp HF 1 0 [(14, vI 0)] fun a HF => ?_
  refine qb rfl (wp_block ?_)
  refine qo (fun mS aS wS => ∃ (g : Nat) (q : List Nat) (Ao : Option Addr) (co : Nat), (g ≤ s.st.rs.length) ∧ (q = upF g fun i => rwN i (s.st.rs.getD i Rw.zero).l) ∧ (q.length ≤ 192 * g) ∧ (q.length ≤ co) ∧ mS = s.st.rs.length - g ∧ Fr aS 223 [] [(14, vI g), (167, .bool true), (109, .bool false), (91, .bool false), (73, .bool false), (44, .bool false), (27, .bool false), (19, .bool false), (18, .string nm), (6, vP g6 0), (5, .slice Ao q.length co), (4, .slice none 0 0), (2, vP g2 0)] ∧ Mem w wS [.blk g6 s.st.cells 30, .row (.slice Ao q.length co) q.length (q.map U64) 22 1, .blk g2 s.cells 56]) (m := s.st.rs.length - 0) ⟨0, [], none, 0, Nat.zero_le _, rfl, Nat.le_refl _, Nat.le_refl _, rfl, HF.sub (by kernel_rfl), HM.picks [0, 1, 2] (by decide) rfl⟩ ?_
  clear HF HM; rintro mS a w_ ⟨g, q, Ao, co, hg, hq, hql, hco, rfl, HF, HM⟩
  refine wp_seq (wp_seq (qa ?_))
  refine fp HF 2 0 [(170, vP g6 6), (169, vI g)] fun a HF => ?_
  refine fy HF HM 2 rfl rfl rfl (v := .slice s.st.sA s.st.rs.length s.st.sc) (Yl.qf rfl rfl (by kernel_rfl) (fun _ h => h.cell (i := 0) rfl (rfl))) fun a HF => ?_
  refine fy HF HM 3 rfl rfl rfl (Yl.len rfl rfl (by kernel_rfl)) fun a HF => ?_
  refine fp HF 1 4 [(173, .bool (decide ((g : Int) < (s.st.rs.length : Int))))] fun a HF => ?_
  refine qb rfl ?_
  rcases HF.tf 173 rfl with ⟨hb173, HF⟩ | ⟨hb173, HF⟩
  ·
   have hd173 := of_decide_eq_true hb173
   have hg173 : g < s.st.rs.length := by omega
   obtain ⟨y, hy⟩ : ∃ z, s.st.rs.getD g Rw.zero = z := ⟨_, rfl⟩
   have hyr : Rd w w.heap.size 3 y.A y.l.length (y.l.flatMap spL) := by rw [← hy]; exact hx.row hg173
   have hyl : (y.l.length : Int) = s.st.cpus := by rw [← hy]; exact (qeq hg173 (hsh.row g hg173)).1
   have hyo : ∀ z ∈ y.l, z.Ok := by rw [← hy, ← rs_at hg173]; exact hok.sp _ (q5 [] (by rw [qat]; exact hg173))
   obtain ⟨gq5, oq5, hq5, _⟩ := Rd.qp hx.s (Nat.lt_of_le_of_lt (Nat.zero_le _) (show g < s.st.rs.length from hg173)) (by decide)
   have hrq5 := hx.s; rw [hq5] at hrq5
   refine qd HF rfl (wp_skip (wp_seq (wp_block (wp_seq (qa ?_)))))
   refine fp HF 1 0 [(15, vI 0)] fun a HF => ?_
   refine qb rfl (wp_block ?_)
   refine qo (fun mS aS wS => ∃ (c : Nat) (q : List Nat) (Ao : Option Addr) (co : Nat), (c ≤ y.l.length) ∧ (q = (upF g fun i => rwN i (s.st.rs.getD i Rw.zero).l) ++ upF c fun i => spN g (y.l.getD i Sp.zero)) ∧ (q.length ≤ 192 * g + 3 * c) ∧ (q.length ≤ co) ∧ mS = y.l.length - c ∧ Fr aS 223 [] [(15, vI c), (173, .bool true), (14, vI g), (167, .bool true), (109, .bool false), (91, .bool false), (73, .bool false), (44, .bool false), (27, .bool false), (19, .bool false), (18, .string nm), (6, vP g6 0), (5, .slice Ao q.length co), (4, .slice none 0 0), (2, vP g2 0)] ∧ Mem w wS [.blk g6 s.st.cells 30, .row (.slice Ao q.length co) q.length (q.map U64) 22 1, .blk g2 s.cells 56]) (m := y.l.length - 0) ⟨0, q, Ao, co, Nat.zero_le _, by rw [hq, qbl, List.append_nil], by omega, hco, rfl, HF.sub (by kernel_rfl), HM.picks [0, 1, 2] (by decide) rfl⟩ ?_
   clear HF HM; rintro mS a w_ ⟨c, q, Ao, co, hc, hq, hql, hco, rfl, HF, HM⟩
   refine wp_seq (wp_seq (qa ?_))
   refine fp HF 2 0 [(177, vP g6 6), (176, vI c)] fun a HF => ?_
   refine fy HF HM 2 rfl rfl rfl (v := .slice s.st.sA s.st.rs.length s.st.sc) (Yl.qf rfl rfl (by kernel_rfl) (fun _ h => h.cell (i := 0) rfl (rfl))) fun a HF => ?_
   refine fp HF 1 3 [(179, vI g)] fun a HF => ?_
   replace HF := HF.as (t := 178) (u := .slice (some ⟨gq5, oq5, none⟩) s.st.rs.length s.st.sc) rfl (by rw [hq5]; try rfl)
   refine fy HF HM 4 rfl rfl rfl (v := vP gq5 (oq5 + g * 1)) (Yl.ix gq5 oq5 g 1 rfl rfl rfl) fun a HF => ?_
   refine fy HF HM 5 rfl rfl rfl (v := .slice ((s.st.rs.getD g Rw.zero).A) ((s.st.rs.getD g Rw.zero).l.length) ((s.st.rs.getD g Rw.zero).c)) (Yl.qf rfl rfl (by kernel_rfl) (fun _ h => (h.old hrq5).q7 (k := g) (qz (F := Rw.val) (k := g) (x := (s.st.rs.getD g Rw.zero)) ((getD_at Rw.zero hg173))))) fun a HF => ?_
   replace HF := HF.sp 181 (.slice y.A y.l.length y.c) rfl (by rw [hy])
   refine fy HF HM 6 rfl rfl rfl (Yl.len rfl rfl (by kernel_rfl)) fun a HF => ?_
   refine fp HF 1 7 [(183, .bool (decide ((c : Int) < (y.l.length : Int))))] fun a HF => ?_
   refine qb rfl ?_
   rcases HF.tf 183 rfl with ⟨hb183, HF⟩ | ⟨hb183, HF⟩
   ·
    have hd183 := of_decide_eq_true hb183
    have hc183 : c < y.l.length := by omega
    have hzo := hyo _ (q5 Sp.zero hc183)
    have hzv := hzo.v; have hzr := hzo.r
    obtain ⟨gq6, oq6, hq6, _⟩ := Rd.qp hyr (Nat.lt_of_le_of_lt (Nat.zero_le _) (show c < y.l.length from hc183)) (by decide)
    have hrq6 := hyr; rw [hq6] at hrq6
    refine qd HF rfl (wp_skip (wp_seq (wp_block (wp_seq (wp_seq (qa ?_))))))
    refine fp HF 2 0 [(187, .bool (decide ((g : Int) > (0 : Int))))] fun a HF => ?_
    refine qb rfl ?_
    rcases HF.tf 187 rfl with ⟨hb187, HF⟩ | ⟨hb187, HF⟩
    ·
     have hd187 := of_decide_eq_true hb187
     refine qd HF rfl ?_
     refine zc HM [.blk g6 s.st.cells 30, .blk g2 s.cells 56] [0, 2] [] fun HM HS => ?_
     refine ap HF (fun _ => HS) [0, 1, 3, 6, 10, 12, 15] #[true, true, false, true, false, false, true, false, false, false, true, false, true, false, false, true, false, false, false, false, false, false, false] [(203, vI c), (200, vI g), (198, vP g6 6), (194, vI c), (191, vI g), (189, vP g6 6), (188, .slice Ao q.length co)] fun a HF => ?_
     refine ay HF HS 2 rfl rfl rfl (v := .slice s.st.sA s.st.rs.length s.st.sc) (Yl.qf rfl rfl (by kernel_rfl) (fun _ h => h.cell (i := 0) rfl (rfl))) fun a HF => ?_
     replace HF := HF.as (t := 190) (u := .slice (some ⟨gq5, oq5, none⟩) s.st.rs.length s.st.sc) rfl (by rw [hq5]; try rfl)
     refine ay HF HS 4 rfl rfl rfl (v := vP gq5 (oq5 + g * 1)) (Yl.ix gq5 oq5 g 1 rfl rfl rfl) fun a HF => ?_
     refine ay HF HS 5 rfl rfl rfl (v := .slice ((s.st.rs.getD g Rw.zero).A) ((s.st.rs.getD g Rw.zero).l.length) ((s.st.rs.getD g Rw.zero).c)) (Yl.qf rfl rfl (by kernel_rfl) (fun _ h => (h.old hrq5).q7 (k := g) (qz (F := Rw.val) (k := g) (x := (s.st.rs.getD g Rw.zero)) ((getD_at Rw.zero hg173))))) fun a HF => ?_
     replace HF := HF.sp 193 (.slice y.A y.l.length y.c) rfl (by rw [hy])
     replace HF := HF.as (t := 193) (u := .slice (some ⟨gq6, oq6, none⟩) y.l.length y.c) rfl (by rw [hq6]; try rfl)
     refine ay HF HS 7 rfl rfl rfl (v := vP gq6 (oq6 + c * 3)) (Yl.ix gq6 oq6 c 3 rfl rfl rfl) fun a HF => ?_
     refine ap HF (fun _ => HS) [8] #[true, true, true, true, true, true, true, true, true, false, true, false, true, false, false, true, false, false, false, false, false, false, false] [(196, vP gq6 (oq6 + c * 3))] fun a HF => ?_
     refine ay HF HS 9 rfl rfl rfl (v := vQ ((y.l.getD c Sp.zero).v)) (Yl.qf rfl rfl (by kernel_rfl) (fun _ h => (by have := (h.old hrq6).partAt zr (k := c) (j := 0) (x := (y.l.getD c Sp.zero)) ((getD_at Sp.zero hc183)) rfl; simpa using this))) fun a HF => ?_
     refine ay HF HS 11 rfl rfl rfl (v := .slice s.st.sA s.st.rs.length s.st.sc) (Yl.qf rfl rfl (by kernel_rfl) (fun _ h => h.cell (i := 0) rfl (rfl))) fun a HF => ?_
     replace HF := HF.as (t := 199) (u := .slice (some ⟨gq5, oq5, none⟩) s.st.rs.length s.st.sc) rfl (by rw [hq5]; try rfl)
     refine ay HF HS 13 rfl rfl rfl (v := vP gq5 (oq5 + g * 1)) (Yl.ix gq5 oq5 g 1 rfl rfl rfl) fun a HF => ?_
     refine ay HF HS 14 rfl rfl rfl (v := .slice ((s.st.rs.getD g Rw.zero).A) ((s.st.rs.getD g Rw.zero).l.length) ((s.st.rs.getD g Rw.zero).c)) (Yl.qf rfl rfl (by kernel_rfl) (fun _ h => (h.old hrq5).q7 (k := g) (qz (F := Rw.val) (k := g) (x := (s.st.rs.getD g Rw.zero)) ((getD_at Rw.zero hg173))))) fun a HF => ?_
     replace HF := HF.sp 202 (.slice y.A y.l.length y.c) rfl (by rw [hy])
     replace HF := HF.as (t := 202) (u := .slice (some ⟨gq6, oq6, none⟩) y.l.length y.c) rfl (by rw [hq6]; try rfl)
     refine ay HF HS 16 rfl rfl rfl (v := vP gq6 (oq6 + c * 3)) (Yl.ix gq6 oq6 c 3 rfl rfl rfl) fun a HF => ?_
     refine ap HF (fun _ => HS) [17] #[true, true, true, true, true, true, true, true, true, true, true, true, true, true, true, true, true, true, false, false, false, false, false] [(205, vP gq6 (oq6 + c * 3 + 1))] fun a HF => ?_
     refine ay HF HS 18 rfl rfl rfl (v := vW ((y.l.getD c Sp.zero).r)) (Yl.qf rfl rfl (by kernel_rfl) (fun _ h => (h.old hrq6).partAt zr (k := c) (j := 1) (x := (y.l.getD c Sp.zero)) ((getD_at Sp.zero hc183)) rfl)) fun a HF => ?_
     refine q3 HF (fun _ => HS) (i := 19) rfl rfl (d := 207) rfl (by decide) (by kernel_rfl) (fun _ _ _ h => h) (v := vQ (IntKind.u64.wrap ((y.l.getD c Sp.zero).r : Int))) (fun _ => Yl.pure (by kernel_rfl)) fun a HF => ?_
     replace HF := HF.sp 207 (vQ ((y.l.getD c Sp.zero).r : Nat)) rfl (qah rfl (by omega))
     refine qm [20] (by kernel_rfl) rfl ?_
     refine all_cons ?_ all_nil
     refine qk HF (i := 20) rfl rfl ?_
     refine qt HF HM (vs := [(0, vQ ((y.l.getD c Sp.zero).v)), (1, vQ ((y.l.getD c Sp.zero).r : Nat))]) (cs := #[vQ ((y.l.getD c Sp.zero).v), vQ ((y.l.getD c Sp.zero).r : Nat)]) rfl za (by decide) rfl (by kernel_rfl) rfl (by decide) ?_
     clear HF HM; intro a w208 g208 HF HM
     refine keepS (HM.picks [1, 3] (by decide) rfl) (fun HS => ?_)
     refine qm [21] (by kernel_rfl) rfl ?_
     refine all_cons ?_ all_nil
     refine qk HF (i := 21) rfl rfl ?_
     refine qw HF HM (i := 2) rfl za rfl rfl rfl (news := ([(y.l.getD c Sp.zero).v, (y.l.getD c Sp.zero).r].map U64)) (HM.rdBlk (i := 0) (n := 2) (size := 1) rfl rfl) (zn _) (by omega) (by omega) rfl (by decide) ?_
     clear HF HM; intro a w209 A209 c209 HF HM hc209
     refine keepS (HM.picks [1, 3] (by decide) rfl) (fun HS => ?_)
     refine ap HF (fun _ => HS) [22] #[true, true, true, true, true, true, true, true, true, true, true, true, true, true, true, true, true, true, true, true, true, true, true] [(5, .slice A209 (q.length + 2) c209)] fun a HF => ?_
     refine qq (by kernel_rfl) ?_
     replace HF := HF.to [(5, .slice A209 (q.length + 2) c209), (187, .bool true), (183, .bool true), (15, vI c), (173, .bool true), (14, vI g), (167, .bool true), (109, .bool false), (91, .bool false), (73, .bool false), (44, .bool false), (27, .bool false), (19, .bool false), (18, .string nm), (6, vP g6 0), (4, .slice none 0 0), (2, vP g2 0)]
     have hnA209 : q.length + 2 = (q ++ [(y.l.getD c Sp.zero).v, (y.l.getD c Sp.zero).r]).length := zd rfl
     replace HM := HM.reRow (i := 2) (ys := (q ++ [(y.l.getD c Sp.zero).v, (y.l.getD c Sp.zero).r]).map U64) rfl hnA209 (List.map_append.symm)
     rw [hnA209] at hc209
     replace HF := HF.as (t := 5) (u := .slice A209 ((q ++ [(y.l.getD c Sp.zero).v, (y.l.getD c Sp.zero).r]).length) c209) rfl (by rw [hnA209])
     refine qa ?_
     refine fp HF 2 0 [(211, vP g6 6), (210, .slice A209 ((q ++ [(y.l.getD c Sp.zero).v, (y.l.getD c Sp.zero).r]).length) c209)] fun a HF => ?_
     refine fy HF HM 2 rfl rfl rfl (v := .slice s.st.sA s.st.rs.length s.st.sc) (Yl.qf rfl rfl (by kernel_rfl) (fun _ h => h.cell (i := 1) rfl (rfl))) fun a HF => ?_
     refine fp HF 1 3 [(213, vI g)] fun a HF => ?_
     replace HF := HF.as (t := 212) (u := .slice (some ⟨gq5, oq5, none⟩) s.st.rs.length s.st.sc) rfl (by rw [hq5]; try rfl)
     refine fy HF HM 4 rfl rfl rfl (v := vP gq5 (oq5 + g * 1)) (Yl.ix gq5 oq5 g 1 rfl rfl rfl) fun a HF => ?_
     refine fy HF HM 5 rfl rfl rfl (v := .slice ((s.st.rs.getD g Rw.zero).A) ((s.st.rs.getD g Rw.zero).l.length) ((s.st.rs.getD g Rw.zero).c)) (Yl.qf rfl rfl (by kernel_rfl) (fun _ h => (h.old hrq5).q7 (k := g) (qz (F := Rw.val) (k := g) (x := (s.st.rs.getD g Rw.zero)) ((getD_at Rw.zero hg173))))) fun a HF => ?_
     replace HF := HF.sp 215 (.slice y.A y.l.length y.c) rfl (by rw [hy])
     refine fp HF 1 6 [(216, vI c)] fun a HF => ?_
     replace HF := HF.as (t := 215) (u := .slice (some ⟨gq6, oq6, none⟩) y.l.length y.c) rfl (by rw [hq6]; try rfl)
     refine fy HF HM 7 rfl rfl rfl (v := vP gq6 (oq6 + c * 3)) (Yl.ix gq6 oq6 c 3 rfl rfl rfl) fun a HF => ?_
     refine fp HF 1 8 [(218, vP gq6 (oq6 + c * 3 + 2))] fun a HF => ?_
     refine fy HF HM 9 rfl rfl rfl (v := vQ ((y.l.getD c Sp.zero).floor)) (Yl.qf rfl rfl (by kernel_rfl) (fun _ h => (h.old hrq6).partAt zr (k := c) (j := 2) (x := (y.l.getD c Sp.zero)) ((getD_at Sp.zero hc183)) rfl)) fun a HF => ?_
     refine fo HF 10 rfl rfl ?_
     refine qt HF HM (vs := [(0, vQ ((y.l.getD c Sp.zero).floor))]) (cs := #[vQ ((y.l.getD c Sp.zero).floor)]) rfl za (by decide) rfl (by kernel_rfl) rfl (by decide) ?_
     clear HF HM; intro a w220 g220 HF HM
     refine fo HF 11 rfl rfl ?_
     refine qw HF HM (i := 3) rfl za rfl rfl rfl (news := ([(y.l.getD c Sp.zero).floor].map U64)) (HM.rdBlk (i := 0) (n := 1) (size := 1) rfl rfl) (zn _) (by omega) (by omega) rfl (by decide) ?_
     clear HF HM; intro a w221 A221 c221 HF HM hc221
     refine fp HF 1 12 [(5, .slice A221 (((q ++ [(y.l.getD c Sp.zero).v, (y.l.getD c Sp.zero).r]).length) + 1) c221)] fun a HF => ?_
     refine qb rfl ?_
     have hnA221 : ((q ++ [(y.l.getD c Sp.zero).v, (y.l.getD c Sp.zero).r]).length) + 1 = ((q ++ [(y.l.getD c Sp.zero).v, (y.l.getD c Sp.zero).r]) ++ [(y.l.getD c Sp.zero).floor]).length := zd rfl
     replace HM := HM.reRow (i := 3) (ys := ((q ++ [(y.l.getD c Sp.zero).v, (y.l.getD c Sp.zero).r]) ++ [(y.l.getD c Sp.zero).floor]).map U64) rfl hnA221 (List.map_append.symm)
     rw [hnA221] at hc221
     replace HF := HF.as (t := 5) (u := .slice A221 (((q ++ [(y.l.getD c Sp.zero).v, (y.l.getD c Sp.zero).r]) ++ [(y.l.getD c Sp.zero).floor]).length) c221) rfl (by rw [hnA221])
     replace HF := HF.as (t := 221) (u := .slice A221 (((q ++ [(y.l.getD c Sp.zero).v, (y.l.getD c Sp.zero).r]) ++ [(y.l.getD c Sp.zero).floor]).length) c221) rfl (by rw [hnA221])
     refine qa ?_
     refine fp HF 2 0 [(185, vI (IntKind.i64.wrap ((c : Int) + 1)))] fun a HF => ?_
     replace HF := HF.sp 185 (vI (c + 1 : Nat)) rfl (qi (by omega) (by omega))
     refine fp HF 1 2 [(15, vI (c + 1 : Nat))] fun a HF => ?_
     refine qb rfl ?_
     exact ⟨_, (by omega), c + 1, ((q ++ [(y.l.getD c Sp.zero).v, (y.l.getD c Sp.zero).r]) ++ [(y.l.getD c Sp.zero).floor]), A221, c221, by omega, by rw [hq, qv, qpi (by omega)]; simp only [List.append_assoc], by (simp only [List.length_append, List.length_cons, List.length_nil]; omega), hc221, rfl, HF.sub (by kernel_rfl), HM.picks [2, 3, 4] (by decide) rfl⟩
    have hd187 := of_decide_eq_false hb187
    refine qc HF rfl (wp_skip (qa ?_))
    refine fp HF 2 0 [(211, vP g6 6), (210, .slice Ao q.length co)] fun a HF => ?_
    refine fy HF HM 2 rfl rfl rfl (v := .slice s.st.sA s.st.rs.length s.st.sc) (Yl.qf rfl rfl (by kernel_rfl) (fun _ h => h.cell (i := 0) rfl (rfl))) fun a HF => ?_
    refine fp HF 1 3 [(213, vI g)] fun a HF => ?_
    replace HF := HF.as (t := 212) (u := .slice (some ⟨gq5, oq5, none⟩) s.st.rs.length s.st.sc) rfl (by rw [hq5]; try rfl)
    refine fy HF HM 4 rfl rfl rfl (v := vP gq5 (oq5 + g * 1)) (Yl.ix gq5 oq5 g 1 rfl rfl rfl) fun a HF => ?_
    refine fy HF HM 5 rfl rfl rfl (v := .slice ((s.st.rs.getD g Rw.zero).A) ((s.st.rs.getD g Rw.zero).l.length) ((s.st.rs.getD g Rw.zero).c)) (Yl.qf rfl rfl (by kernel_rfl) (fun _ h => (h.old hrq5).q7 (k := g) (qz (F := Rw.val) (k := g) (x := (s.st.rs.getD g Rw.zero)) ((getD_at Rw.zero hg173))))) fun a HF => ?_
    replace HF := HF.sp 215 (.slice y.A y.l.length y.c) rfl (by rw [hy])
    refine fp HF 1 6 [(216, vI c)] fun a HF => ?_
    replace HF := HF.as (t := 215) (u := .slice (some ⟨gq6, oq6, none⟩) y.l.length y.c) rfl (by rw [hq6]; try rfl)
    refine fy HF HM 7 rfl rfl rfl (v := vP gq6 (oq6 + c * 3)) (Yl.ix gq6 oq6 c 3 rfl rfl rfl) fun a HF => ?_
    refine fp HF 1 8 [(218, vP gq6 (oq6 + c * 3 + 2))] fun a HF => ?_
    refine fy HF HM 9 rfl rfl rfl (v := vQ ((y.l.getD c Sp.zero).floor)) (Yl.qf rfl rfl (by kernel_rfl) (fun _ h => (h.old hrq6).partAt zr (k := c) (j := 2) (x := (y.l.getD c Sp.zero)) ((getD_at Sp.zero hc183)) rfl)) fun a HF => ?_
    refine fo HF 10 rfl rfl ?_
    refine qt HF HM (vs := [(0, vQ ((y.l.getD c Sp.zero).floor))]) (cs := #[vQ ((y.l.getD c Sp.zero).floor)]) rfl za (by decide) rfl (by kernel_rfl) rfl (by decide) ?_
    clear HF HM; intro a w220 g220 HF HM
    refine fo HF 11 rfl rfl ?_
    refine qw HF HM (i := 2) rfl za rfl rfl rfl (news := ([(y.l.getD c Sp.zero).floor].map U64)) (HM.rdBlk (i := 0) (n := 1) (size := 1) rfl rfl) (zn _) (by omega) (by omega) rfl (by decide) ?_
    clear HF HM; intro a w221 A221 c221 HF HM hc221
    refine fp HF 1 12 [(5, .slice A221 (q.length + 1) c221)] fun a HF => ?_
    refine qb rfl ?_
    have hnA221 : q.length + 1 = (q ++ [(y.l.getD c Sp.zero).floor]).length := zd rfl
    replace HM := HM.reRow (i := 2) (ys := (q ++ [(y.l.getD c Sp.zero).floor]).map U64) rfl hnA221 (List.map_append.symm)
    rw [hnA221] at hc221
    replace HF := HF.as (t := 5) (u := .slice A221 ((q ++ [(y.l.getD c Sp.zero).floor]).length) c221) rfl (by rw [hnA221])
    replace HF := HF.as (t := 221) (u := .slice A221 ((q ++ [(y.l.getD c Sp.zero).floor]).length) c221) rfl (by rw [hnA221])
    refine qa ?_
    refine fp HF 2 0 [(185, vI (IntKind.i64.wrap ((c : Int) + 1)))] fun a HF => ?_
    replace HF := HF.sp 185 (vI (c + 1 : Nat)) rfl (qi (by omega) (by omega))
    refine fp HF 1 2 [(15, vI (c + 1 : Nat))] fun a HF => ?_
    refine qb rfl ?_
    exact ⟨_, (by omega), c + 1, (q ++ [(y.l.getD c Sp.zero).floor]), A221, c221, by omega, by rw [hq, qv, qlr (by omega), List.append_assoc], by (simp only [List.length_append, List.length_cons, List.length_nil]; omega), hc221, rfl, HF.sub (by kernel_rfl), HM.picks [1, 2, 3] (by decide) rfl⟩
   have hd183 := of_decide_eq_false hb183
   refine qc HF rfl (wp_exit (qa ?_))
   refine fp HF 2 0 [(175, vI (IntKind.i64.wrap ((g : Int) + 1)))] fun a HF => ?_
   replace HF := HF.sp 175 (vI (g + 1 : Nat)) rfl (qi (by omega) (by omega))
   refine fp HF 1 2 [(14, vI (g + 1 : Nat))] fun a HF => ?_
   refine qb rfl ?_
   exact ⟨_, (by omega), g + 1, q, Ao, co, by omega, by rw [hq, show c = y.l.length by omega, qv, hy]; rfl, by omega, hco, rfl, HF.sub (by kernel_rfl), HM.picks [0, 1, 2] (by decide) rfl⟩
  have hd173 := of_decide_eq_false hb173
  refine qc HF rfl (wp_exit (wp_seq (qa ?_)))
  refine fp HF 2 0 [(4, .slice Ao q.length co)] fun a HF => ?_
  refine qb rfl (wp_ret ?_)
  exact ret1 rfl HF (.tmp HF rfl) (ze ((show _ = secN s 6 from by rw [hq, show g = s.st.rs.length by omega]; rfl).trans (Eq.symm ((of_no hb19).trans ((of_no hb27).trans ((of_no hb44).trans ((of_no hb73).trans ((of_no hb91).trans ((of_no hb109).trans (qeu hb167))))))))) (HM.own (i := 1) rfl) hco HM.below)
 refine qc HF rfl (wp_skip (wp_seq (qa ?_)))
 refine fp HF 2 0 [(4, .slice none 0 0)] fun a HF => ?_
 refine qb rfl (wp_ret ?_)
 exact ret1 rfl HF (.tmp HF rfl) (ze ((show _ = [] from rfl).trans (Eq.symm ((of_no hb19).trans ((of_no hb27).trans ((of_no hb44).trans ((of_no hb73).trans ((of_no hb91).trans ((of_no hb109).trans ((of_no hb167).trans (rfl)))))))))) (HM.own (i := 1) rfl) (Nat.le_refl _) HM.below)
theorem qto (s : Snm) (hok : s.st.sta.Ok) (hf : StFew s.st) (hsh : ShAt s.st) (j : Nat) (w : World) (hx : StRd w s.st) : Calls Tryz.prog 55 #[.agg s.cells, .string (nmR j)] w (qa7 w (secR s j)) := qus s hok hf hsh (nmR j) w hx
theorem qux : SI Tryz.prog 83 3 := ⟨by kernel_rfl, by kernel_rfl⟩
theorem qee : EI Tryz.prog 76 83 (.agg #[.string (ByteArray.mk #[]), .int .i64 0, .int .i64 0]) 3 32 := ⟨by kernel_rfl, by kernel_rfl, rfl, by omega⟩
theorem qev (s : Snm) (hok : s.st.sta.Ok) (hf : StFew s.st) (w : World) (hx : StRd w s.st) :
    Calls Tryz.prog 21 #[.agg s.cells] w (qeb w (chkS s) (numsE s)) := by
 refine qg (vs := [.agg s.cells]) Tryz.func21 rfl rfl (by kernel_rfl) (σ0 := [(0, .agg s.cells)]) rfl ?_
 intro a HF
 have HM := Mem.start w
 refine wp_seq (qa ?_)
 refine fo HF 0 rfl rfl ?_
 refine e_box HF HM (cs := s.cells) rfl rfl rfl rfl (by decide) ?_
 clear HF HM; intro a w1 g1 HF HM
 refine fp HF 2 1 [(3, vI 0), (2, .slice none 0 0)] fun a HF => ?_
 refine qb rfl (wp_seq (wp_seq (qa ?_)))
 refine fy HF HM 0 rfl rfl rfl (v := .agg s.cells) (Yl.qr rfl rfl z6 rfl (fun _ h => qe (h.blk (i := 0) rfl))) fun a HF => ?_
 replace HF := HF.sp 8 (.agg s.cells) rfl (rfl)
 refine fo HF 1 rfl rfl ?_
 refine e_is HF HM [.agg s.cells] (vI (chkS s)) rfl rfl (qg3 s hok hf _ (hx.old HM)) fun w9 hbw HM a HF => ?_
 refine fp HF 1 2 [(4, vI (chkS s))] fun a HF => ?_
 refine qb rfl (wp_seq (qa ?_))
 refine fp HF 2 0 [(11, .bool ((chkS s : Int) != (0 : Int)))] fun a HF => ?_
 refine qb rfl ?_
 rcases HF.tf 11 rfl with ⟨hb11, HF⟩ | ⟨hb11, HF⟩
 ·
  have hd11 := bne_iff_ne.1 hb11
  refine qd HF rfl (wp_seq (qa ?_))
  refine fp HF 3 0 [(3, vI (chkS s)), (2, .slice none 0 0)] fun a HF => ?_
  refine qb rfl (wp_ret ?_)
  exact ret2 rfl HF (.tmp HF rfl) (.tmp HF rfl) (qgs _ rfl (qhr (by omega)) HM.below)
 have hd11 := bne_eq_false_iff_eq.1 hb11
 have hk0 : chkS s = 0 := by omega
 have hsh := qdo hk0
 refine qc HF rfl (wp_skip (wp_seq (qa ?_)))
 refine fp HF 1 0 [(5, .slice none 0 0)] fun a HF => ?_
 refine qb rfl ?_
 replace HM := HM.nil 22 1
 refine wp_seq (qa ?_)
 refine fo HF 0 rfl rfl ?_
 refine e_cl HF [] rfl rfl (qg2 _) ?_
 rintro _ w13 ⟨⟨g13, rfl, ho⟩, hbw⟩
 refine ⟨_, rfl, ?_⟩
 replace HM := HM.callRow hbw ho
 clear HF; intro a HF
 refine fp HF 1 1 [(6, vS g13 9 9)] fun a HF => ?_
 refine qb rfl (wp_seq (wp_seq (qa ?_)))
 refine fp HF 1 0 [(7, vI 0)] fun a HF => ?_
 refine qb rfl (wp_block ?_)
 refine qo (fun mS aS wS => ∃ (j : Nat) (q : List Nat) (Ao : Option Addr) (co : Nat), (j ≤ 9) ∧ (q = upF j (secR s)) ∧ (q.length ≤ co) ∧ mS = 9 - j ∧ Fr aS 29 [] [(7, vI j), (6, vS g13 9 9), (5, .slice Ao q.length co), (11, .bool false), (4, vI (chkS s)), (3, vI 0), (2, .slice none 0 0), (1, vP g1 0)] ∧ Mem w wS [.row (vS g13 9 9) 9 (nameL.map StrC) 9 1, .row (.slice Ao q.length co) q.length (q.map U64) 22 1, .blk g1 s.cells 56]) (m := 9 - 0) ⟨0, [], none, 0, Nat.zero_le _, rfl, Nat.le_refl _, rfl, HF.sub (by kernel_rfl), HM.picks [0, 1, 2] (by decide) rfl⟩ ?_
 clear HF HM; rintro mS a w_ ⟨j, q, Ao, co, hj, hq, hco, rfl, HF, HM⟩
 refine wp_seq (wp_seq (qa ?_))
 refine fp HF 2 0 [(15, vS g13 9 9), (14, vI j)] fun a HF => ?_
 refine fy HF HM 2 rfl rfl rfl (Yl.len rfl rfl (by kernel_rfl)) fun a HF => ?_
 refine fp HF 1 3 [(17, .bool (decide ((j : Int) < (9 : Int))))] fun a HF => ?_
 refine qb rfl ?_
 rcases HF.tf 17 rfl with ⟨hb17, HF⟩ | ⟨hb17, HF⟩
 ·
  have hd17 := of_decide_eq_true hb17
  have hj17 : j < 9 := by omega
  have hql : q.length ≤ 5400000 := by have := qqk hsh j (by omega); rw [← hq] at this; omega
  have hsl := qhz hsh hj17
  refine qd HF rfl (wp_skip (wp_seq (wp_block ?_)))
  refine zc HM [.row (vS g13 9 9) 9 (nameL.map StrC) 9 1, .blk g1 s.cells 56] [0, 2] [] fun HM HS => ?_
  refine ap HF (fun _ => HS) [0, 2, 3] #[true, false, true, true, false, false, false, false, false] [(23, vI j), (22, vS g13 9 9), (20, .slice Ao q.length co)] fun a HF => ?_
  refine ay HF HS 1 rfl rfl rfl (v := .agg s.cells) (Yl.qr rfl rfl z6 rfl (fun _ h => qe (h.blk (i := 1) rfl))) fun a HF => ?_
  replace HF := HF.sp 21 (.agg s.cells) rfl (rfl)
  refine ay HF HS 4 rfl rfl rfl (v := vP g13 (j * 1)) (Yl.ix0 g13 j 1 rfl rfl rfl) fun a HF => ?_
  refine ay HF HS 5 rfl rfl rfl (v := .string (nmR j)) (Yl.qf rfl rfl (by kernel_rfl) (fun _ h => h.qad (i := 0) rfl (k := j) (qz (F := StrC) (k := j) (x := (nameL.getD j [])) ((getD_at [] (show j < nameL.length from hj17)))))) fun a HF => ?_
  refine qm [6] (by kernel_rfl) rfl ?_
  refine all_cons ?_ all_nil
  refine qk HF (i := 6) rfl rfl ?_
  refine e_cl HF [.agg s.cells, .string (nmR j)] rfl rfl (qto s hok hf hsh j _ (hx.old HM)) ?_
  rintro _ w26 ⟨⟨A26, c26, rfl, ho, hc26⟩, hbw⟩
  refine ⟨_, rfl, ?_⟩
  replace HM := HM.callRow hbw ho
  clear HF; intro a HF
  refine keepS (HM.picks [1, 3] (by decide) rfl) (fun HS => ?_)
  refine qm [7] (by kernel_rfl) rfl ?_
  refine all_cons ?_ all_nil
  refine qk HF (i := 7) rfl rfl ?_
  refine qw HF HM (i := 2) rfl za rfl rfl rfl (news := ((secR s j).map U64)) (HM.rd (i := 0) rfl) (zn _) (by omega) (by omega) rfl (by decide) ?_
  clear HF HM; intro a w27 A27 c27 HF HM hc27
  refine keepS (HM.picks [1, 3] (by decide) rfl) (fun HS => ?_)
  refine ap HF (fun _ => HS) [8] #[true, true, true, true, true, true, true, true, true] [(5, .slice A27 (q.length + ((secR s j).length)) c27)] fun a HF => ?_
  refine qq (by kernel_rfl) ?_
  have hnA27 : q.length + ((secR s j).length) = (q ++ (secR s j)).length := zd rfl
  replace HM := HM.reRow (i := 2) (ys := (q ++ (secR s j)).map U64) rfl hnA27 (List.map_append.symm)
  rw [hnA27] at hc27
  replace HF := HF.as (t := 5) (u := .slice A27 ((q ++ (secR s j)).length) c27) rfl (by rw [hnA27])
  replace HF := HF.as (t := 27) (u := .slice A27 ((q ++ (secR s j)).length) c27) rfl (by rw [hnA27])
  refine qa ?_
  refine fp HF 2 0 [(19, vI (IntKind.i64.wrap ((j : Int) + 1)))] fun a HF => ?_
  replace HF := HF.sp 19 (vI (j + 1 : Nat)) rfl (qi (by omega) (by omega))
  refine fp HF 1 2 [(7, vI (j + 1 : Nat))] fun a HF => ?_
  refine qb rfl ?_
  exact ⟨_, (by omega), j + 1, (q ++ (secR s j)), A27, c27, by omega, by rw [hq, qv], hc27, rfl, HF.sub (by kernel_rfl), HM.picks [1, 2, 3] (by decide) rfl⟩
 have hd17 := of_decide_eq_false hb17
 refine qc HF rfl (wp_exit (wp_seq (qa ?_)))
 refine fp HF 3 0 [(3, vI 0), (2, .slice Ao q.length co)] fun a HF => ?_
 refine qb rfl (wp_ret ?_)
 exact ret2 rfl HF (.tmp HF rfl) (.tmp HF rfl) (qgr (er' := 0) hk0.symm (by rw [qaq hk0, ← numsR, hq, show j = 9 by omega]) (HM.own (i := 1) rfl) hco HM.below)
theorem qg9 (s : Snm) (hok : s.st.sta.Ok) (hf : StFew s.st) (w : World) (hx : StRd w s.st) :
    Calls Tryz.prog 23 #[.agg s.cells] w (qcn w (chkS s) (outS s)) := by
 refine qg (vs := [.agg s.cells]) Tryz.func23 rfl rfl (by kernel_rfl) (σ0 := [(0, .agg s.cells)]) rfl ?_
 intro a HF
 have HM := Mem.start w
 refine wp_seq (qa ?_)
 refine fo HF 0 rfl rfl ?_
 refine e_box HF HM (cs := s.cells) rfl rfl rfl rfl (by decide) ?_
 clear HF HM; intro a w1 g1 HF HM
 refine fp HF 2 1 [(3, vI 0), (2, .slice none 0 0)] fun a HF => ?_
 refine qb rfl (wp_seq (qa ?_))
 refine fy HF HM 0 rfl rfl rfl (v := .agg s.cells) (Yl.qr rfl rfl z6 rfl (fun _ h => qe (h.blk (i := 0) rfl))) fun a HF => ?_
 replace HF := HF.sp 7 (.agg s.cells) rfl (rfl)
 refine fo HF 1 rfl rfl ?_
 refine e_cl HF [.agg s.cells] rfl rfl (qev s hok hf _ (hx.old HM)) ?_
 rintro _ w8 ⟨⟨A8, c8, rfl, ho, hc8⟩, hbw⟩
 refine ⟨_, rfl, ?_⟩
 replace HM := HM.callRow hbw ho
 clear HF; intro a HF
 refine fp HF 5 2 [(5, vI (chkS s)), (4, .slice A8 ((numsE s).length) c8)] fun a HF => ?_
 refine qb rfl (wp_seq (wp_seq (qa ?_)))
 refine fp HF 2 0 [(12, .bool ((chkS s : Int) != (0 : Int)))] fun a HF => ?_
 refine qb rfl ?_
 rcases HF.tf 12 rfl with ⟨hb12, HF⟩ | ⟨hb12, HF⟩
 ·
  have hd12 := bne_iff_ne.1 hb12
  refine qd HF rfl (wp_seq (qa ?_))
  refine fp HF 3 0 [(3, vI (chkS s)), (2, .slice none 0 0)] fun a HF => ?_
  refine qb rfl (wp_ret ?_)
  exact ret2 rfl HF (.tmp HF rfl) (.tmp HF rfl) (qgt _ rfl (qpn (by omega)) HM.below)
 have hd12 := bne_eq_false_iff_eq.1 hb12
 have hk0 : chkS s = 0 := by omega
 have hsh := qdo hk0
 have hnl := qcr hsh
 rw [← qaq hk0] at hnl
 have hbf := qe2 hsh
 have hfl := qag (numsE s)
 refine qc HF rfl (wp_skip (wp_seq (qa ?_)))
 refine fo HF 0 rfl rfl ?_
 refine qt HF HM (vs := [(0, vB 113), (1, vB 115), (2, vB 1)]) (cs := #[vB 113, vB 115, vB 1]) rfl ei_u8 (by decide) rfl (by kernel_rfl) rfl (by decide) ?_
 clear HF HM; intro a w14 g14 HF HM
 refine fp HF 1 1 [(15, .slice A8 ((numsE s).length) c8)] fun a HF => ?_
 refine fo HF 2 rfl rfl ?_
 refine e_cl HF [.slice A8 ((numsE s).length) c8] rfl rfl (qg8 A8 ((numsE s).length) c8 (numsE s) _ (HM.rd (i := 1) rfl) rfl (by rw [qaq hk0]; exact qls hok hf) (by have := hnl; omega)) ?_
 rintro _ w16 ⟨⟨A16, c16, rfl, ho, hc16⟩, hbw⟩
 refine ⟨_, rfl, ?_⟩
 replace HM := HM.callRow hbw ho
 clear HF; intro a HF
 refine fo HF 3 rfl rfl ?_
 replace HM := HM.blkRow (i := 1) (n := 3) (size := 1) rfl rfl (by decide)
 refine qw HF HM (i := 1) rfl ei_u8 rfl rfl rfl (news := (((numsE s).flatMap vbytes).map B8)) (HM.rd (i := 0) rfl) (qgd _) (by omega) (by omega) rfl (by decide) ?_
 clear HF HM; intro a w17 A17 c17 HF HM hc17
 have hnA17 : 3 + (((numsE s).flatMap vbytes).length) = (bodyS s).length := qtg hk0
 replace HM := HM.reRow (i := 1) (ys := (bodyS s).map B8) rfl hnA17 (qgu hk0)
 rw [hnA17] at hc17
 replace HF := HF.as (t := 17) (u := .slice A17 ((bodyS s).length) c17) rfl (by rw [hnA17])
 refine fo HF 4 rfl rfl ?_
 refine e_cl HF [.slice A17 ((bodyS s).length) c17] rfl rfl (qni A17 ((bodyS s).length) c17 (bodyS s) _ (HM.rd (i := 1) rfl) rfl (by omega) (qhq s)) ?_
 rintro _ w18 ⟨⟨A18, c18, rfl, ho, hc18⟩, hbw⟩
 refine ⟨_, rfl, ?_⟩
 replace HM := HM.callRow hbw ho
 clear HF; intro a HF
 refine fp HF 2 5 [(3, vI 0), (2, .slice A18 ((sealL (bodyS s)).length) c18)] fun a HF => ?_
 refine qb rfl (wp_ret ?_)
 exact ret2 rfl HF (.tmp HF rfl) (.tmp HF rfl) (qgv (er' := 0) hk0.symm (qc6 hk0).symm (HM.own (i := 0) rfl) hc18 HM.below)
theorem qsr (s : Snm) (hok : s.st.sta.Ok) (hf : StFew s.st) (w : World) (hx : StRd w s.st) :
    Calls Tryz.prog 26 #[.agg s.cells] w (Is w (.tuple #[.int .u32 (sumS s : Int), .int .i64 (chkS s : Int)])) := by
 refine qg (vs := [.agg s.cells]) Tryz.func26 rfl rfl (by kernel_rfl) (σ0 := [(0, .agg s.cells)]) rfl ?_
 intro a HF
 have HM := Mem.start w
 refine wp_seq (qa ?_)
 refine fo HF 0 rfl rfl ?_
 refine e_box HF HM (cs := s.cells) rfl rfl rfl rfl (by decide) ?_
 clear HF HM; intro a w1 g1 HF HM
 refine fp HF 2 1 [(3, vI 0), (2, vW 0)] fun a HF => ?_
 refine qb rfl (wp_seq (qa ?_))
 refine fy HF HM 0 rfl rfl rfl (v := .agg s.cells) (Yl.qr rfl rfl z6 rfl (fun _ h => qe (h.blk (i := 0) rfl))) fun a HF => ?_
 replace HF := HF.sp 8 (.agg s.cells) rfl (rfl)
 refine fo HF 1 rfl rfl ?_
 refine e_cl HF [.agg s.cells] rfl rfl (qg9 s hok hf _ (hx.old HM)) ?_
 rintro _ w9 ⟨⟨A9, c9, rfl, ho, hc9⟩, hbw⟩
 refine ⟨_, rfl, ?_⟩
 replace HM := HM.callRow hbw ho
 clear HF; intro a HF
 refine fp HF 5 2 [(5, vI (chkS s)), (4, .slice A9 ((outS s).length) c9)] fun a HF => ?_
 refine qb rfl (wp_seq (wp_seq (qa ?_)))
 refine fp HF 2 0 [(13, .bool ((chkS s : Int) != (0 : Int)))] fun a HF => ?_
 refine qb rfl ?_
 rcases HF.tf 13 rfl with ⟨hb13, HF⟩ | ⟨hb13, HF⟩
 ·
  have hd13 := bne_iff_ne.1 hb13
  refine qd HF rfl (wp_seq (qa ?_))
  refine fp HF 3 0 [(3, vI (chkS s)), (2, vW 0)] fun a HF => ?_
  refine qb rfl (wp_ret ?_)
  exact ret2 rfl HF (.tmp HF rfl) (.tmp HF rfl) (⟨by rw [qpp (by omega)]; rfl, HM.below⟩)
 have hd13 := bne_eq_false_iff_eq.1 hb13
 have hk0 : chkS s = 0 := by omega
 have hsh := qdo hk0
 have hbf := qe2 hsh
 have hol := qpo hk0
 have hlt : ∀ b ∈ outS s, b < 256 := by rw [qc6 hk0]; exact qos (qhq s)
 have hss := qsm (bodyS s)
 rw [← qc6 hk0] at hss
 refine qc HF rfl (wp_skip (wp_seq (qa ?_)))
 refine fp HF 1 0 [(15, .slice A9 ((outS s).length) c9)] fun a HF => ?_
 refine fy HF HM 1 rfl rfl rfl (Yl.len rfl rfl (by kernel_rfl)) fun a HF => ?_
 refine fp HF 1 2 [(6, vI ((outS s).length : Nat))] fun a HF => ?_
 refine qb rfl ?_
 obtain ⟨gA9, rfl⟩ := zh (HM.own (i := 0) rfl) (Nat.lt_of_le_of_lt (Nat.zero_le _) (show (outS s).length - 4 < (outS s).length from (by omega : (outS s).length - 4 < (outS s).length)))
 have hb_0 := getD_lt hlt (k := (outS s).length - 4) (by omega)
 have hb_1 := getD_lt hlt (k := (outS s).length - 3) (by omega)
 have hb_2 := getD_lt hlt (k := (outS s).length - 2) (by omega)
 have hb_3 := getD_lt hlt (k := (outS s).length - 1) (by omega)
 have hcs := qcp (bodyS s)
 refine wp_seq ?_
 refine zc HM [.row (vS gA9 ((outS s).length) c9) ((outS s).length) ((outS s).map B8) 5 1, .blk g1 s.cells 56] [0, 1] [] fun HM HS => ?_
 refine ap HF (fun _ => HS) [0, 1, 6, 7, 14, 15, 22, 23] #[true, true, false, false, false, false, true, true, false, false, false, false, false, false, true, true, false, false, false, false, false, false, true, true, false, false, false, false, false, false, false, false] [(40, vI ((outS s).length : Nat)), (39, vS gA9 ((outS s).length) c9), (32, vI ((outS s).length : Nat)), (31, vS gA9 ((outS s).length) c9), (24, vI ((outS s).length : Nat)), (23, vS gA9 ((outS s).length) c9), (18, vI ((outS s).length : Nat)), (17, vS gA9 ((outS s).length) c9)] fun a HF => ?_
 refine q3 HF (fun _ => HS) (i := 2) rfl rfl (d := 19) rfl (by decide) (by kernel_rfl) (fun _ _ _ h => h) (v := vI (IntKind.i64.wrap ((((outS s).length : Nat) : Int) - 4))) (fun _ => Yl.pure (by kernel_rfl)) fun a HF => ?_
 replace HF := HF.sp 19 (vI ((outS s).length - 4 : Nat)) rfl (qi (by omega) (by omega))
 refine ay HF HS 3 rfl rfl rfl (v := vP gA9 (((outS s).length - 4) * 1)) (Yl.ix0 gA9 ((outS s).length - 4) 1 rfl rfl rfl) fun a HF => ?_
 refine ay HF HS 4 rfl rfl rfl (v := vB ((outS s).getD ((outS s).length - 4) 0)) (Yl.qf rfl rfl (by kernel_rfl) (fun _ h => h.qad (i := 0) rfl (k := ((outS s).length - 4)) (qz (F := B8) (k := ((outS s).length - 4)) (x := ((outS s).getD ((outS s).length - 4) 0)) ((getD_at 0 (by omega)))))) fun a HF => ?_
 refine q3 HF (fun _ => HS) (i := 5) rfl rfl (d := 22) rfl (by decide) (by kernel_rfl) (fun _ _ _ h => h) (v := vW (IntKind.u32.wrap (((outS s).getD ((outS s).length - 4) 0) : Int))) (fun _ => Yl.pure (by kernel_rfl)) fun a HF => ?_
 replace HF := HF.sp 22 (vW ((outS s).getD ((outS s).length - 4) 0)) rfl (zq rfl (by omega))
 refine q3 HF (fun _ => HS) (i := 8) rfl rfl (d := 25) rfl (by decide) (by kernel_rfl) (fun _ _ _ h => h) (v := vI (IntKind.i64.wrap ((((outS s).length : Nat) : Int) - 3))) (fun _ => Yl.pure (by kernel_rfl)) fun a HF => ?_
 replace HF := HF.sp 25 (vI ((outS s).length - 3 : Nat)) rfl (qi (by omega) (by omega))
 refine ay HF HS 9 rfl rfl rfl (v := vP gA9 (((outS s).length - 3) * 1)) (Yl.ix0 gA9 ((outS s).length - 3) 1 rfl rfl rfl) fun a HF => ?_
 refine ay HF HS 10 rfl rfl rfl (v := vB ((outS s).getD ((outS s).length - 3) 0)) (Yl.qf rfl rfl (by kernel_rfl) (fun _ h => h.qad (i := 0) rfl (k := ((outS s).length - 3)) (qz (F := B8) (k := ((outS s).length - 3)) (x := ((outS s).getD ((outS s).length - 3) 0)) ((getD_at 0 (by omega)))))) fun a HF => ?_
 refine q3 HF (fun _ => HS) (i := 11) rfl rfl (d := 28) rfl (by decide) (by kernel_rfl) (fun _ _ _ h => h) (v := vW (IntKind.u32.wrap (((outS s).getD ((outS s).length - 3) 0) : Int))) (fun _ => Yl.pure (by kernel_rfl)) fun a HF => ?_
 replace HF := HF.sp 28 (vW ((outS s).getD ((outS s).length - 3) 0)) rfl (zq rfl (by omega))
 refine q3 HF (fun _ => HS) (i := 12) rfl rfl (d := 29) rfl (by decide) (by kernel_rfl) (fun _ _ _ h => h) (v := vW (IntKind.u32.wrap (256 * (((outS s).getD ((outS s).length - 3) 0) : Int)))) (fun _ => Yl.pure (by kernel_rfl)) fun a HF => ?_
 replace HF := HF.sp 29 (vW (256 * ((outS s).getD ((outS s).length - 3) 0) : Nat)) rfl (zq (by omega) (by omega))
 refine q3 HF (fun _ => HS) (i := 13) rfl rfl (d := 30) rfl (by decide) (by kernel_rfl) (fun _ _ _ h => h) (v := vW (IntKind.u32.wrap ((((outS s).getD ((outS s).length - 4) 0) : Int) + ((256 * ((outS s).getD ((outS s).length - 3) 0) : Nat) : Int)))) (fun _ => Yl.pure (by kernel_rfl)) fun a HF => ?_
 replace HF := HF.sp 30 (vW (((outS s).getD ((outS s).length - 4) 0) + (256 * ((outS s).getD ((outS s).length - 3) 0)) : Nat)) rfl (zq (by omega) (by omega))
 refine q3 HF (fun _ => HS) (i := 16) rfl rfl (d := 33) rfl (by decide) (by kernel_rfl) (fun _ _ _ h => h) (v := vI (IntKind.i64.wrap ((((outS s).length : Nat) : Int) - 2))) (fun _ => Yl.pure (by kernel_rfl)) fun a HF => ?_
 replace HF := HF.sp 33 (vI ((outS s).length - 2 : Nat)) rfl (qi (by omega) (by omega))
 refine ay HF HS 17 rfl rfl rfl (v := vP gA9 (((outS s).length - 2) * 1)) (Yl.ix0 gA9 ((outS s).length - 2) 1 rfl rfl rfl) fun a HF => ?_
 refine ay HF HS 18 rfl rfl rfl (v := vB ((outS s).getD ((outS s).length - 2) 0)) (Yl.qf rfl rfl (by kernel_rfl) (fun _ h => h.qad (i := 0) rfl (k := ((outS s).length - 2)) (qz (F := B8) (k := ((outS s).length - 2)) (x := ((outS s).getD ((outS s).length - 2) 0)) ((getD_at 0 (by omega)))))) fun a HF => ?_
 refine q3 HF (fun _ => HS) (i := 19) rfl rfl (d := 36) rfl (by decide) (by kernel_rfl) (fun _ _ _ h => h) (v := vW (IntKind.u32.wrap (((outS s).getD ((outS s).length - 2) 0) : Int))) (fun _ => Yl.pure (by kernel_rfl)) fun a HF => ?_
 replace HF := HF.sp 36 (vW ((outS s).getD ((outS s).length - 2) 0)) rfl (zq rfl (by omega))
 refine q3 HF (fun _ => HS) (i := 20) rfl rfl (d := 37) rfl (by decide) (by kernel_rfl) (fun _ _ _ h => h) (v := vW (IntKind.u32.wrap (65536 * (((outS s).getD ((outS s).length - 2) 0) : Int)))) (fun _ => Yl.pure (by kernel_rfl)) fun a HF => ?_
 replace HF := HF.sp 37 (vW (65536 * ((outS s).getD ((outS s).length - 2) 0) : Nat)) rfl (zq (by omega) (by omega))
 refine q3 HF (fun _ => HS) (i := 21) rfl rfl (d := 38) rfl (by decide) (by kernel_rfl) (fun _ _ _ h => h) (v := vW (IntKind.u32.wrap (((((outS s).getD ((outS s).length - 4) 0) + (256 * ((outS s).getD ((outS s).length - 3) 0)) : Nat) : Int) + ((65536 * ((outS s).getD ((outS s).length - 2) 0) : Nat) : Int)))) (fun _ => Yl.pure (by kernel_rfl)) fun a HF => ?_
 replace HF := HF.sp 38 (vW ((((outS s).getD ((outS s).length - 4) 0) + (256 * ((outS s).getD ((outS s).length - 3) 0))) + (65536 * ((outS s).getD ((outS s).length - 2) 0)) : Nat)) rfl (zq (by omega) (by omega))
 refine q3 HF (fun _ => HS) (i := 24) rfl rfl (d := 41) rfl (by decide) (by kernel_rfl) (fun _ _ _ h => h) (v := vI (IntKind.i64.wrap ((((outS s).length : Nat) : Int) - 1))) (fun _ => Yl.pure (by kernel_rfl)) fun a HF => ?_
 replace HF := HF.sp 41 (vI ((outS s).length - 1 : Nat)) rfl (qi (by omega) (by omega))
 refine ay HF HS 25 rfl rfl rfl (v := vP gA9 (((outS s).length - 1) * 1)) (Yl.ix0 gA9 ((outS s).length - 1) 1 rfl rfl rfl) fun a HF => ?_
 refine ay HF HS 26 rfl rfl rfl (v := vB ((outS s).getD ((outS s).length - 1) 0)) (Yl.qf rfl rfl (by kernel_rfl) (fun _ h => h.qad (i := 0) rfl (k := ((outS s).length - 1)) (qz (F := B8) (k := ((outS s).length - 1)) (x := ((outS s).getD ((outS s).length - 1) 0)) ((getD_at 0 (by omega)))))) fun a HF => ?_
 refine q3 HF (fun _ => HS) (i := 27) rfl rfl (d := 44) rfl (by decide) (by kernel_rfl) (fun _ _ _ h => h) (v := vW (IntKind.u32.wrap (((outS s).getD ((outS s).length - 1) 0) : Int))) (fun _ => Yl.pure (by kernel_rfl)) fun a HF => ?_
 replace HF := HF.sp 44 (vW ((outS s).getD ((outS s).length - 1) 0)) rfl (zq rfl (by omega))
 refine q3 HF (fun _ => HS) (i := 28) rfl rfl (d := 45) rfl (by decide) (by kernel_rfl) (fun _ _ _ h => h) (v := vW (IntKind.u32.wrap (16777216 * (((outS s).getD ((outS s).length - 1) 0) : Int)))) (fun _ => Yl.pure (by kernel_rfl)) fun a HF => ?_
 replace HF := HF.sp 45 (vW (16777216 * ((outS s).getD ((outS s).length - 1) 0) : Nat)) rfl (zq (by omega) (by omega))
 refine q3 HF (fun _ => HS) (i := 29) rfl rfl (d := 46) rfl (by decide) (by kernel_rfl) (fun _ _ _ h => h) (v := vW (IntKind.u32.wrap ((((((outS s).getD ((outS s).length - 4) 0) + (256 * ((outS s).getD ((outS s).length - 3) 0))) + (65536 * ((outS s).getD ((outS s).length - 2) 0)) : Nat) : Int) + ((16777216 * ((outS s).getD ((outS s).length - 1) 0) : Nat) : Int)))) (fun _ => Yl.pure (by kernel_rfl)) fun a HF => ?_
 replace HF := HF.sp 46 (vW (qu (bodyS s))) rfl (zq (by omega) (by omega))
 refine ap HF (fun _ => HS) [30, 31] #[true, true, true, true, true, true, true, true, true, true, true, true, true, true, true, true, true, true, true, true, true, true, true, true, true, true, true, true, true, true, true, true] [(3, vI 0), (2, vW (qu (bodyS s)))] fun a HF => ?_
 refine qq (by kernel_rfl) ?_
 replace HF := HF.to [(3, vI 0), (2, vW (qu (bodyS s))), (13, .bool false), (5, vI (chkS s)), (4, vS gA9 ((outS s).length) c9)]
 refine wp_ret ?_
 exact ret2 rfl HF (.tmp HF rfl) (.tmp HF rfl) (⟨by rw [qkf hk0, hk0]; rfl, HM.below⟩)
theorem qh4 (s : Snm) (hok : s.st.sta.Ok) (hf : StFew s.st) (w : World) (hx : StRd w s.st) :
    Calls Tryz.prog 28 #[.agg s.cells] w (qec 83 w (chkS s) (secsE s)) := by
 refine qg (vs := [.agg s.cells]) Tryz.func28 rfl rfl (by kernel_rfl) (σ0 := [(0, .agg s.cells)]) rfl ?_
 intro a HF
 have HM := Mem.start w
 refine wp_seq (qa ?_)
 refine fo HF 0 rfl rfl ?_
 refine e_box HF HM (cs := s.cells) rfl rfl rfl rfl (by decide) ?_
 clear HF HM; intro a w1 g1 HF HM
 refine fp HF 2 1 [(3, vI 0), (2, .slice none 0 0)] fun a HF => ?_
 refine qb rfl (wp_seq (wp_seq (qa ?_)))
 refine fy HF HM 0 rfl rfl rfl (v := .agg s.cells) (Yl.qr rfl rfl z6 rfl (fun _ h => qe (h.blk (i := 0) rfl))) fun a HF => ?_
 replace HF := HF.sp 10 (.agg s.cells) rfl (rfl)
 refine fo HF 1 rfl rfl ?_
 refine e_is HF HM [.agg s.cells] (vI (chkS s)) rfl rfl (qg3 s hok hf _ (hx.old HM)) fun w11 hbw HM a HF => ?_
 refine fp HF 1 2 [(4, vI (chkS s))] fun a HF => ?_
 refine qb rfl (wp_seq (qa ?_))
 refine fp HF 2 0 [(13, .bool ((chkS s : Int) != (0 : Int)))] fun a HF => ?_
 refine qb rfl ?_
 rcases HF.tf 13 rfl with ⟨hb13, HF⟩ | ⟨hb13, HF⟩
 ·
  have hd13 := bne_iff_ne.1 hb13
  refine qd HF rfl (wp_seq (qa ?_))
  refine fp HF 3 0 [(3, vI (chkS s)), (2, .slice none 0 0)] fun a HF => ?_
  refine qb rfl (wp_ret ?_)
  exact ret2 rfl HF (.tmp HF rfl) (.tmp HF rfl) (qgx _ rfl (qlu (by omega)) HM.below)
 have hd13 := bne_eq_false_iff_eq.1 hb13
 have hk0 : chkS s = 0 := by omega
 have hsh := qdo hk0
 refine qc HF rfl (wp_skip (wp_seq (qa ?_)))
 refine fp HF 1 0 [(5, .slice none 0 0)] fun a HF => ?_
 refine qb rfl ?_
 replace HM := HM.nil 83 3
 refine wp_seq (qa ?_)
 refine fp HF 1 0 [(6, vI 0)] fun a HF => ?_
 refine qb rfl (wp_seq (qa ?_))
 refine fo HF 0 rfl rfl ?_
 refine e_cl HF [] rfl rfl (qg2 _) ?_
 rintro _ w15 ⟨⟨g15, rfl, ho⟩, hbw⟩
 refine ⟨_, rfl, ?_⟩
 replace HM := HM.callRow hbw ho
 clear HF; intro a HF
 refine fp HF 1 1 [(7, vS g15 9 9)] fun a HF => ?_
 refine qb rfl (wp_seq (wp_seq (qa ?_)))
 refine fp HF 1 0 [(8, vI 0)] fun a HF => ?_
 refine qb rfl (wp_block ?_)
 refine qo (fun mS aS wS => ∃ (j : Nat) (q : List Sec) (Ao : Option Addr) (co : Nat), (j ≤ 9) ∧ (q = upF j (zz s)) ∧ (q.length = j) ∧ (q.length ≤ co) ∧ mS = 9 - j ∧ Fr aS 56 [] [(8, vI j), (7, vS g15 9 9), (6, vI (atR s j)), (5, .slice Ao q.length co), (13, .bool false), (4, vI (chkS s)), (3, vI 0), (2, .slice none 0 0), (1, vP g1 0)] ∧ Mem w wS [.row (vS g15 9 9) 9 (nameL.map StrC) 9 1, .row (.slice Ao q.length co) q.length (q.flatMap secL) 83 3, .blk g1 s.cells 56]) (m := 9 - 0) ⟨0, [], none, 0, Nat.zero_le _, rfl, rfl, Nat.le_refl _, rfl, HF.sub (by kernel_rfl), HM.picks [0, 1, 2] (by decide) rfl⟩ ?_
 clear HF HM; rintro mS a w_ ⟨j, q, Ao, co, hj, hq, hql, hco, rfl, HF, HM⟩
 refine wp_seq (wp_seq (qa ?_))
 refine fp HF 2 0 [(17, vS g15 9 9), (16, vI j)] fun a HF => ?_
 refine fy HF HM 2 rfl rfl rfl (Yl.len rfl rfl (by kernel_rfl)) fun a HF => ?_
 refine fp HF 1 3 [(19, .bool (decide ((j : Int) < (9 : Int))))] fun a HF => ?_
 refine qb rfl ?_
 rcases HF.tf 19 rfl with ⟨hb19, HF⟩ | ⟨hb19, HF⟩
 ·
  have hd19 := of_decide_eq_true hb19
  have hj19 : j < 9 := by omega
  have hsl := qhz hsh hj19
  have hfl := qag (secR s j)
  have hal1 := qtm hsh (j := j) (by omega)
  have hal2 := qtm hsh (j := j + 1) (by omega)
  refine qd HF rfl (wp_skip (wp_seq (wp_block (wp_seq ?_))))
  refine zc HM [.row (vS g15 9 9) 9 (nameL.map StrC) 9 1, .row (.slice Ao q.length co) q.length (q.flatMap secL) 83 3, .blk g1 s.cells 56] [0, 1, 2] [] fun HM HS => ?_
  refine ap HF (fun _ => HS) [1, 2] #[false, true, true, false, false, false, false, false, false] [(24, vI j), (23, vS g15 9 9)] fun a HF => ?_
  refine ay HF HS 0 rfl rfl rfl (v := .agg s.cells) (Yl.qr rfl rfl z6 rfl (fun _ h => qe (h.blk (i := 2) rfl))) fun a HF => ?_
  replace HF := HF.sp 22 (.agg s.cells) rfl (rfl)
  refine ay HF HS 3 rfl rfl rfl (v := vP g15 (j * 1)) (Yl.ix0 g15 j 1 rfl rfl rfl) fun a HF => ?_
  refine ay HF HS 4 rfl rfl rfl (v := .string (nmR j)) (Yl.qf rfl rfl (by kernel_rfl) (fun _ h => h.qad (i := 0) rfl (k := j) (qz (F := StrC) (k := j) (x := (nameL.getD j [])) ((getD_at [] (show j < nameL.length from hj19)))))) fun a HF => ?_
  refine qm [5] (by kernel_rfl) rfl ?_
  refine all_cons ?_ all_nil
  refine qk HF (i := 5) rfl rfl ?_
  refine e_cl HF [.agg s.cells, .string (nmR j)] rfl rfl (qto s hok hf hsh j _ (hx.old HM)) ?_
  rintro _ w27 ⟨⟨A27, c27, rfl, ho, hc27⟩, hbw⟩
  refine ⟨_, rfl, ?_⟩
  replace HM := HM.callRow hbw ho
  clear HF; intro a HF
  refine keepS (HM.picks [1, 2, 3] (by decide) rfl) (fun HS => ?_)
  refine qm [6] (by kernel_rfl) rfl ?_
  refine all_cons ?_ all_nil
  refine qk HF (i := 6) rfl rfl ?_
  refine e_cl HF [.slice A27 ((secR s j).length) c27] rfl rfl (qg8 A27 ((secR s j).length) c27 (secR s j) _ (HM.rd (i := 0) rfl) rfl (qun hok hf hj19) (by have := hsl; omega)) ?_
  rintro _ w28 ⟨⟨A28, c28, rfl, ho, hc28⟩, hbw⟩
  refine ⟨_, rfl, ?_⟩
  replace HM := HM.callRow hbw ho
  clear HF; intro a HF
  refine keepS (HM.picks [2, 3, 4] (by decide) rfl) (fun HS => ?_)
  refine ay HF HS 7 rfl rfl rfl (Yl.len rfl rfl (by kernel_rfl)) fun a HF => ?_
  refine ap HF (fun _ => HS) [8] #[true, true, true, true, true, true, true, true, true] [(9, vI (((secR s j).flatMap vbytes).length : Nat))] fun a HF => ?_
  refine qq (by kernel_rfl) ?_
  refine wp_seq (wp_seq (qa ?_))
  refine fp HF 2 0 [(31, vI j), (30, vS g15 9 9)] fun a HF => ?_
  refine fy HF HM 2 rfl rfl rfl (v := vP g15 (j * 1)) (Yl.ix0 g15 j 1 rfl rfl rfl) fun a HF => ?_
  refine fy HF HM 3 rfl rfl rfl (v := .string (nmR j)) (Yl.qf rfl rfl (by kernel_rfl) (fun _ h => h.qad (i := 2) rfl (k := j) (qz (F := StrC) (k := j) (x := (nameL.getD j [])) ((getD_at [] (show j < nameL.length from hj19)))))) fun a HF => ?_
  refine fp HF 1 4 [(34, .bool (((nmR j)).toList == ((ByteArray.mk #[104, 101, 97, 100])).toList))] fun a HF => ?_
  refine qb rfl ?_
  rcases HF.tf 34 rfl with ⟨hb34, HF⟩ | ⟨hb34, HF⟩
  ·
   have hj0 : j = 0 := of_decide_eq_true ((head_eq hj19).symm.trans hb34)
   refine qd HF rfl (qa ?_)
   refine fp HF 1 0 [(9, vI 3)] fun a HF => ?_
   refine qb rfl (wp_seq (wp_seq (qa ?_)))
   refine fp HF 2 0 [(36, vI j), (35, vS g15 9 9)] fun a HF => ?_
   refine fy HF HM 2 rfl rfl rfl (v := vP g15 (j * 1)) (Yl.ix0 g15 j 1 rfl rfl rfl) fun a HF => ?_
   refine fy HF HM 3 rfl rfl rfl (v := .string (nmR j)) (Yl.qf rfl rfl (by kernel_rfl) (fun _ h => h.qad (i := 2) rfl (k := j) (qz (F := StrC) (k := j) (x := (nameL.getD j [])) ((getD_at [] (show j < nameL.length from hj19)))))) fun a HF => ?_
   refine fp HF 1 4 [(39, .bool (((nmR j)).toList == ((ByteArray.mk #[115, 117, 109])).toList))] fun a HF => ?_
   refine qb rfl ?_
   rcases HF.tf 39 rfl with ⟨hb39, HF⟩ | ⟨hb39, HF⟩
   ·
    have hj8 : j = 8 := of_decide_eq_true ((ql1 hj19).symm.trans hb39)
    omega
   have hj8 : j ≠ 8 := of_decide_eq_false ((ql1 hj19).symm.trans hb39)
   refine qc HF rfl (wp_skip (wp_seq (qa ?_)))
   refine fp HF 3 0 [(42, vI j), (41, vS g15 9 9), (40, .slice Ao q.length co)] fun a HF => ?_
   refine fy HF HM 3 rfl rfl rfl (v := vP g15 (j * 1)) (Yl.ix0 g15 j 1 rfl rfl rfl) fun a HF => ?_
   refine fy HF HM 4 rfl rfl rfl (v := .string (nmR j)) (Yl.qf rfl rfl (by kernel_rfl) (fun _ h => h.qad (i := 2) rfl (k := j) (qz (F := StrC) (k := j) (x := (nameL.getD j [])) ((getD_at [] (show j < nameL.length from hj19)))))) fun a HF => ?_
   refine fp HF 4 5 [(48, vI (IntKind.i64.wrap ((atR s j : Int) + 3))), (45, vI (atR s j))] fun a HF => ?_
   replace HF := HF.sp 48 (vI (atR s (j + 1))) rfl (qi (by have := ql0 s hj0; omega) (by omega))
   refine fy HF HM 9 rfl rfl rfl (v := .agg #[.string (nmR j), vI (atR s j), vI (atR s (j + 1))]) (Yl.build (vs := [(0, .string (nmR j)), (1, vI (atR s j)), (2, vI (atR s (j + 1)))]) rfl (by kernel_rfl) (by kernel_rfl)) fun a HF => ?_
   refine fo HF 10 rfl rfl ?_
   refine qt HF HM (vs := [(0, .agg #[.string (nmR j), vI (atR s j), vI (atR s (j + 1))])]) (cs := #[.string (nmR j), vI (atR s j), vI (atR s (j + 1))]) rfl qee (by decide) rfl (by kernel_rfl) rfl (by decide) ?_
   clear HF HM; intro a w50 g50 HF HM
   refine fo HF 11 rfl rfl ?_
   refine qw HF HM (i := 4) rfl qee rfl rfl rfl (news := ((zz s j).flatMap secL)) (HM.rdBlk (i := 0) (n := 1) (size := 3) rfl rfl) (qfp _) (by omega) (by omega) rfl (by decide) ?_
   clear HF HM; intro a w51 A51 c51 HF HM hc51
   refine fp HF 1 12 [(5, .slice A51 (q.length + 1) c51)] fun a HF => ?_
   refine qb rfl ?_
   have hnA51 : q.length + 1 = (q ++ (zz s j)).length := zd rfl
   replace HM := HM.reRow (i := 4) (ys := (q ++ (zz s j)).flatMap secL) rfl hnA51 (List.flatMap_append.symm)
   rw [hnA51] at hc51
   replace HF := HF.as (t := 5) (u := .slice A51 ((q ++ (zz s j)).length) c51) rfl (by rw [hnA51])
   replace HF := HF.as (t := 51) (u := .slice A51 ((q ++ (zz s j)).length) c51) rfl (by rw [hnA51])
   refine qa ?_
   refine fp HF 3 0 [(54, vI (IntKind.i64.wrap ((atR s j : Int) + 3)))] fun a HF => ?_
   replace HF := HF.sp 54 (vI (atR s (j + 1))) rfl (qi (by have := ql0 s hj0; omega) (by omega))
   refine fp HF 1 3 [(6, vI (atR s (j + 1)))] fun a HF => ?_
   refine qb rfl (qa ?_)
   refine fp HF 2 0 [(21, vI (IntKind.i64.wrap ((j : Int) + 1)))] fun a HF => ?_
   replace HF := HF.sp 21 (vI (j + 1 : Nat)) rfl (qi (by omega) (by omega))
   refine fp HF 1 2 [(8, vI (j + 1 : Nat))] fun a HF => ?_
   refine qb rfl ?_
   replace HF := HF.to [(8, vI (j + 1 : Nat)), (6, vI (atR s (j + 1))), (51, .slice A51 ((q ++ (zz s j)).length) c51), (5, .slice A51 ((q ++ (zz s j)).length) c51), (39, .bool false), (9, vI 3), (34, .bool true), (19, .bool true), (7, vS g15 9 9), (13, .bool false), (4, vI (chkS s)), (3, vI 0), (2, .slice none 0 0), (1, vP g1 0)]
   exact ⟨_, (by omega), j + 1, (q ++ (zz s j)), A51, c51, by omega, by rw [hq, qv], by rw [List.length_append, hql]; rfl, hc51, rfl, HF.sub (by kernel_rfl), HM.picks [3, 4, 5] (by decide) rfl⟩
  have hj0 : j ≠ 0 := of_decide_eq_false ((head_eq hj19).symm.trans hb34)
  refine qc HF rfl (wp_skip (wp_seq (wp_seq (qa ?_))))
  refine fp HF 2 0 [(36, vI j), (35, vS g15 9 9)] fun a HF => ?_
  refine fy HF HM 2 rfl rfl rfl (v := vP g15 (j * 1)) (Yl.ix0 g15 j 1 rfl rfl rfl) fun a HF => ?_
  refine fy HF HM 3 rfl rfl rfl (v := .string (nmR j)) (Yl.qf rfl rfl (by kernel_rfl) (fun _ h => h.qad (i := 2) rfl (k := j) (qz (F := StrC) (k := j) (x := (nameL.getD j [])) ((getD_at [] (show j < nameL.length from hj19)))))) fun a HF => ?_
  refine fp HF 1 4 [(39, .bool (((nmR j)).toList == ((ByteArray.mk #[115, 117, 109])).toList))] fun a HF => ?_
  refine qb rfl ?_
  rcases HF.tf 39 rfl with ⟨hb39, HF⟩ | ⟨hb39, HF⟩
  ·
   have hj8 : j = 8 := of_decide_eq_true ((ql1 hj19).symm.trans hb39)
   refine qd HF rfl (qa ?_)
   refine fp HF 1 0 [(9, vI 4)] fun a HF => ?_
   refine qb rfl (wp_seq (qa ?_))
   refine fp HF 3 0 [(42, vI j), (41, vS g15 9 9), (40, .slice Ao q.length co)] fun a HF => ?_
   refine fy HF HM 3 rfl rfl rfl (v := vP g15 (j * 1)) (Yl.ix0 g15 j 1 rfl rfl rfl) fun a HF => ?_
   refine fy HF HM 4 rfl rfl rfl (v := .string (nmR j)) (Yl.qf rfl rfl (by kernel_rfl) (fun _ h => h.qad (i := 2) rfl (k := j) (qz (F := StrC) (k := j) (x := (nameL.getD j [])) ((getD_at [] (show j < nameL.length from hj19)))))) fun a HF => ?_
   refine fp HF 4 5 [(48, vI (IntKind.i64.wrap ((atR s j : Int) + 4))), (45, vI (atR s j))] fun a HF => ?_
   replace HF := HF.sp 48 (vI (atR s (j + 1))) rfl (qi (by have := qql s hj8; omega) (by omega))
   refine fy HF HM 9 rfl rfl rfl (v := .agg #[.string (nmR j), vI (atR s j), vI (atR s (j + 1))]) (Yl.build (vs := [(0, .string (nmR j)), (1, vI (atR s j)), (2, vI (atR s (j + 1)))]) rfl (by kernel_rfl) (by kernel_rfl)) fun a HF => ?_
   refine fo HF 10 rfl rfl ?_
   refine qt HF HM (vs := [(0, .agg #[.string (nmR j), vI (atR s j), vI (atR s (j + 1))])]) (cs := #[.string (nmR j), vI (atR s j), vI (atR s (j + 1))]) rfl qee (by decide) rfl (by kernel_rfl) rfl (by decide) ?_
   clear HF HM; intro a w50 g50 HF HM
   refine fo HF 11 rfl rfl ?_
   refine qw HF HM (i := 4) rfl qee rfl rfl rfl (news := ((zz s j).flatMap secL)) (HM.rdBlk (i := 0) (n := 1) (size := 3) rfl rfl) (qfp _) (by omega) (by omega) rfl (by decide) ?_
   clear HF HM; intro a w51 A51 c51 HF HM hc51
   refine fp HF 1 12 [(5, .slice A51 (q.length + 1) c51)] fun a HF => ?_
   refine qb rfl ?_
   have hnA51 : q.length + 1 = (q ++ (zz s j)).length := zd rfl
   replace HM := HM.reRow (i := 4) (ys := (q ++ (zz s j)).flatMap secL) rfl hnA51 (List.flatMap_append.symm)
   rw [hnA51] at hc51
   replace HF := HF.as (t := 5) (u := .slice A51 ((q ++ (zz s j)).length) c51) rfl (by rw [hnA51])
   replace HF := HF.as (t := 51) (u := .slice A51 ((q ++ (zz s j)).length) c51) rfl (by rw [hnA51])
   refine qa ?_
   refine fp HF 3 0 [(54, vI (IntKind.i64.wrap ((atR s j : Int) + 4)))] fun a HF => ?_
   replace HF := HF.sp 54 (vI (atR s (j + 1))) rfl (qi (by have := qql s hj8; omega) (by omega))
   refine fp HF 1 3 [(6, vI (atR s (j + 1)))] fun a HF => ?_
   refine qb rfl (qa ?_)
   refine fp HF 2 0 [(21, vI (IntKind.i64.wrap ((j : Int) + 1)))] fun a HF => ?_
   replace HF := HF.sp 21 (vI (j + 1 : Nat)) rfl (qi (by omega) (by omega))
   refine fp HF 1 2 [(8, vI (j + 1 : Nat))] fun a HF => ?_
   refine qb rfl ?_
   replace HF := HF.to [(8, vI (j + 1 : Nat)), (6, vI (atR s (j + 1))), (51, .slice A51 ((q ++ (zz s j)).length) c51), (5, .slice A51 ((q ++ (zz s j)).length) c51), (9, vI 4), (39, .bool true), (34, .bool false), (19, .bool true), (7, vS g15 9 9), (13, .bool false), (4, vI (chkS s)), (3, vI 0), (2, .slice none 0 0), (1, vP g1 0)]
   exact ⟨_, (by omega), j + 1, (q ++ (zz s j)), A51, c51, by omega, by rw [hq, qv], by rw [List.length_append, hql]; rfl, hc51, rfl, HF.sub (by kernel_rfl), HM.picks [3, 4, 5] (by decide) rfl⟩
  have hj8 : j ≠ 8 := of_decide_eq_false ((ql1 hj19).symm.trans hb39)
  refine qc HF rfl (wp_skip (wp_seq (qa ?_)))
  refine fp HF 3 0 [(42, vI j), (41, vS g15 9 9), (40, .slice Ao q.length co)] fun a HF => ?_
  refine fy HF HM 3 rfl rfl rfl (v := vP g15 (j * 1)) (Yl.ix0 g15 j 1 rfl rfl rfl) fun a HF => ?_
  refine fy HF HM 4 rfl rfl rfl (v := .string (nmR j)) (Yl.qf rfl rfl (by kernel_rfl) (fun _ h => h.qad (i := 2) rfl (k := j) (qz (F := StrC) (k := j) (x := (nameL.getD j [])) ((getD_at [] (show j < nameL.length from hj19)))))) fun a HF => ?_
  refine fp HF 4 5 [(48, vI (IntKind.i64.wrap ((atR s j : Int) + ((((secR s j).flatMap vbytes).length : Nat) : Int)))), (45, vI (atR s j))] fun a HF => ?_
  replace HF := HF.sp 48 (vI (atR s (j + 1))) rfl (qi (by have := qqm s hj0 hj8 hj19; omega) (by omega))
  refine fy HF HM 9 rfl rfl rfl (v := .agg #[.string (nmR j), vI (atR s j), vI (atR s (j + 1))]) (Yl.build (vs := [(0, .string (nmR j)), (1, vI (atR s j)), (2, vI (atR s (j + 1)))]) rfl (by kernel_rfl) (by kernel_rfl)) fun a HF => ?_
  refine fo HF 10 rfl rfl ?_
  refine qt HF HM (vs := [(0, .agg #[.string (nmR j), vI (atR s j), vI (atR s (j + 1))])]) (cs := #[.string (nmR j), vI (atR s j), vI (atR s (j + 1))]) rfl qee (by decide) rfl (by kernel_rfl) rfl (by decide) ?_
  clear HF HM; intro a w50 g50 HF HM
  refine fo HF 11 rfl rfl ?_
  refine qw HF HM (i := 4) rfl qee rfl rfl rfl (news := ((zz s j).flatMap secL)) (HM.rdBlk (i := 0) (n := 1) (size := 3) rfl rfl) (qfp _) (by omega) (by omega) rfl (by decide) ?_
  clear HF HM; intro a w51 A51 c51 HF HM hc51
  refine fp HF 1 12 [(5, .slice A51 (q.length + 1) c51)] fun a HF => ?_
  refine qb rfl ?_
  have hnA51 : q.length + 1 = (q ++ (zz s j)).length := zd rfl
  replace HM := HM.reRow (i := 4) (ys := (q ++ (zz s j)).flatMap secL) rfl hnA51 (List.flatMap_append.symm)
  rw [hnA51] at hc51
  replace HF := HF.as (t := 5) (u := .slice A51 ((q ++ (zz s j)).length) c51) rfl (by rw [hnA51])
  replace HF := HF.as (t := 51) (u := .slice A51 ((q ++ (zz s j)).length) c51) rfl (by rw [hnA51])
  refine qa ?_
  refine fp HF 3 0 [(54, vI (IntKind.i64.wrap ((atR s j : Int) + ((((secR s j).flatMap vbytes).length : Nat) : Int))))] fun a HF => ?_
  replace HF := HF.sp 54 (vI (atR s (j + 1))) rfl (qi (by have := qqm s hj0 hj8 hj19; omega) (by omega))
  refine fp HF 1 3 [(6, vI (atR s (j + 1)))] fun a HF => ?_
  refine qb rfl (qa ?_)
  refine fp HF 2 0 [(21, vI (IntKind.i64.wrap ((j : Int) + 1)))] fun a HF => ?_
  replace HF := HF.sp 21 (vI (j + 1 : Nat)) rfl (qi (by omega) (by omega))
  refine fp HF 1 2 [(8, vI (j + 1 : Nat))] fun a HF => ?_
  refine qb rfl ?_
  replace HF := HF.to [(8, vI (j + 1 : Nat)), (6, vI (atR s (j + 1))), (51, .slice A51 ((q ++ (zz s j)).length) c51), (5, .slice A51 ((q ++ (zz s j)).length) c51), (39, .bool false), (34, .bool false), (9, vI (((secR s j).flatMap vbytes).length : Nat)), (19, .bool true), (7, vS g15 9 9), (13, .bool false), (4, vI (chkS s)), (3, vI 0), (2, .slice none 0 0), (1, vP g1 0)]
  exact ⟨_, (by omega), j + 1, (q ++ (zz s j)), A51, c51, by omega, by rw [hq, qv], by rw [List.length_append, hql]; rfl, hc51, rfl, HF.sub (by kernel_rfl), HM.picks [3, 4, 5] (by decide) rfl⟩
 have hd19 := of_decide_eq_false hb19
 refine qc HF rfl (wp_exit (wp_seq (qa ?_)))
 refine fp HF 3 0 [(3, vI 0), (2, .slice Ao q.length co)] fun a HF => ?_
 refine qb rfl (wp_ret ?_)
 exact ret2 rfl HF (.tmp HF rfl) (.tmp HF rfl) (qgw (er' := 0) hk0.symm (by rw [qhs hk0, ← secsR, hq, show j = 9 by omega]) (HM.own (i := 1) rfl) hco HM.below)
theorem z9 (s : Snm) (w : World) (hx : StRd w s.st) (hf : StFew s.st) :
    Calls Tryz.prog 19 #[.agg s.cells] w (qvz w s) := by
 refine qg (vs := [.agg s.cells]) Tryz.func19 rfl rfl (by kernel_rfl) (σ0 := [(0, .agg s.cells)]) rfl ?_
 intro a HF
 have HM := Mem.start w
 refine wp_seq (qa ?_)
 refine fo HF 0 rfl rfl ?_
 refine e_box HF HM (cs := s.cells) rfl rfl rfl rfl (by decide) ?_
 clear HF HM; intro a w1 g1 HF HM
 refine fo HF 1 rfl rfl ?_
 refine qs HF HM (cs := #[vI 0, vI 0, vQ 0, .slice none 0 0, .slice none 0 0, .slice none 0 0, .slice none 0 0, .slice none 0 0]) rfl (by kernel_rfl) rfl (by decide) ?_
 clear HF HM; intro a w2 g2 HF HM
 refine qb rfl (wp_seq ?_)
 refine zc HM [.blk g2 #[vI 0, vI 0, vQ 0, .slice none 0 0, .slice none 0 0, .slice none 0 0, .slice none 0 0, .slice none 0 0] 56, .blk g1 s.cells 32] [0, 1] [6] fun HM HS => ?_
 refine ap HF (fun _ => HS) [0, 2] #[true, false, true, false, false, false, false] [(5, vP g1 1), (3, vP g1 0)] fun a HF => ?_
 refine ay HF HS 1 rfl rfl rfl (v := vI s.next) (Yl.qf rfl rfl (by kernel_rfl) (fun _ h => h.cell (i := 1) rfl (rfl))) fun a HF => ?_
 refine ay HF HS 3 rfl rfl rfl (v := .agg #[vI s.st.cpus, vQ s.st.credit, .slice s.st.gA s.st.gs.length s.st.gc, .slice s.st.lA s.st.cl.length s.st.lc, .slice s.st.uA s.st.cu.length s.st.uc, .slice s.st.tA s.st.ts.length s.st.tc, .slice s.st.sA s.st.rs.length s.st.sc]) (Yl.qr rfl rfl si_st rfl (fun _ h => h.sub (i := 1) rfl 1 rfl)) fun a HF => ?_
 replace HF := HF.sp 6 (.agg s.st.cells) rfl (rfl)
 refine qm [4] (by kernel_rfl) rfl ?_
 refine all_cons ?_ all_nil
 refine qk HF (i := 4) rfl rfl ?_
 refine e_cl HF [.agg s.st.cells] rfl rfl (qcd s.st _ (hx.old HM) hf) ?_
 rintro _ w7 ⟨y, rfl, heq, hcap, hm⟩
 refine ⟨_, rfl, ?_⟩
 replace HM := (show Mem w _ (.blk g2 #[vI 0, vI 0, vQ 0, .slice none 0 0, .slice none 0 0, .slice none 0 0, .slice none 0 0, .slice none 0 0] 56 :: .blk g1 s.cells 32 :: stF y) from HM.joinT hm)
 clear HF; intro a HF
 refine keepS (HM.picks [0, 1] (by decide) rfl) (fun HS => ?_)
 refine ay HF HS 5 rfl rfl rfl (v := .agg #[vI s.next, vI y.cpus, vQ y.credit, .slice y.gA y.gs.length y.gc, .slice y.lA y.cl.length y.lc, .slice y.uA y.cu.length y.uc, .slice y.tA y.ts.length y.tc, .slice y.sA y.rs.length y.sc]) (Yl.build (vs := [(0, vI s.next), (1, .agg y.cells)]) rfl (by kernel_rfl) (by kernel_rfl)) fun a HF => ?_
 refine qm [6] (by kernel_rfl) rfl ?_
 refine all_cons ?_ all_nil
 refine qk HF (i := 6) rfl rfl ?_
 refine e_sa HF HM 0 rfl rfl rfl rfl rfl z6 rfl rfl (by simp [Value.oneCell']) ?_
 clear HM; intro w1_6 HM
 refine noS (by kernel_rfl) ?_
 refine qq (by kernel_rfl) ?_
 refine wp_ret ?_
 exact ret1 rfl HF (.cellS (i := 0) HF HM rfl rfl z6 rfl) (⟨⟨s.next, y⟩, rfl, sn_of rfl heq, hcap, HM.picksT 2 [] (by decide) (by decide) rfl⟩)
theorem qk0 (a x : Snm) (h : SnEq a x) (hok : a.st.sta.Ok) (hf : StFew a.st) (w : World) (hx : StRd w x.st) : Calls Tryz.prog 21 #[.agg x.cells] w (qeb w (chkS a) (numsE a)) := by
 have h1 := qev x (by rw [qi8 (qa4 h)]; exact hok) (qds (qa4 h) hf) w hx
 rwa [qes h, qsc h] at h1
theorem qq1 (a x : Snm) (h : SnEq a x) (hok : a.st.sta.Ok) (hf : StFew a.st) (w : World) (hx : StRd w x.st) : Calls Tryz.prog 23 #[.agg x.cells] w (qcn w (chkS a) (outS a)) := by
 have h1 := qg9 x (by rw [qi8 (qa4 h)]; exact hok) (qds (qa4 h) hf) w hx
 rwa [qes h, qv3 h] at h1
theorem qu1 (a x : Snm) (h : SnEq a x) (hok : a.st.sta.Ok) (hf : StFew a.st) (w : World) (hx : StRd w x.st) : Calls Tryz.prog 26 #[.agg x.cells] w (Is w (.tuple #[.int .u32 (sumS a : Int), .int .i64 (chkS a : Int)])) := by
 have h1 := qsr x (by rw [qi8 (qa4 h)]; exact hok) (qds (qa4 h) hf) w hx
 rwa [qes h, qud h] at h1
theorem qjr (a x : Snm) (h : SnEq a x) (hok : a.st.sta.Ok) (hf : StFew a.st) (w : World) (hx : StRd w x.st) : Calls Tryz.prog 28 #[.agg x.cells] w (qec 83 w (chkS a) (secsE a)) := by
 have h1 := qh4 x (by rw [qi8 (qa4 h)]; exact hok) (qds (qa4 h) hf) w hx
 rwa [qes h, que h] at h1
theorem qsv (a b x y : Snm) (h : SnEq a x) (k : SnEq b y) (hf : StFew a.st) (hg : StFew b.st) (w : World) (hx : StRd w x.st) (hy : StRd w y.st) : Calls Tryz.prog 32 #[.agg x.cells, .agg y.cells] w (Is w (.bool (decide (SnEq a b)))) := by
 have h1 := qjq x y w hx hy (qds (qa4 h) hf) (qds (qa4 k) hg)
 rwa [decide_eq_decide.2 (qsd h k).symm] at h1
theorem qnn (a x y : Snm) (h : SnEq a x) (k : SnEq a y) (hf : StFew a.st) (w : World) (hx : StRd w x.st) (hy : StRd w y.st) : Calls Tryz.prog 32 #[.agg x.cells, .agg y.cells] w (Is w (.bool true)) := by
 have h1 := qjq x y w hx hy (qds (qa4 h) hf) (qds (qa4 k) hf)
 rwa [decide_eq_true (qbs (qfs h) k)] at h1
theorem qk1 (s z : Stm) (h : StaEq s z) (w : World) (hx : StRd w s) (hz : StRd w z) (hf : StFew s) : Calls Tryz.prog 33 #[.agg s.cells, .agg z.cells] w (Is w (.bool true)) := by
 have h1 := qnm s z w hx hz hf (qds h hf)
 rwa [decide_eq_true h] at h1
theorem qha (A : Option Addr) (c : Nat) (l : List Nat) (D : Option Addr) (c2 : Nat) (w : World) (hr : Rd w w.heap.size 1 A l.length (l.map U64)) (hr2 : Rd w w.heap.size 1 D l.length (l.map U64)) (hn : l.length ≤ 1000000) : Calls Tryz.prog 30 #[.slice A l.length c, .slice D l.length c2] w (Is w (.bool true)) := by
 have h1 := qq0 A c l D c2 l w hr hr2 hn hn
 rwa [decide_eq_true rfl] at h1
theorem qq2 (s : Snm) : (numsE s).length ≤ 600000 := by
 by_cases h : chkS s = 0
 ·rw [qaq h]; exact qcr (qdo h)
 ·rw [qhr h]; exact Nat.zero_le _
theorem z3 (p q : Snm) (hoka : p.st.sta.Ok) (hfa : StFew p.st) (hca : StCap p.st) (hfb : StFew q.st) (B : Nat) (w : World) (hL : LaidX B w) (hB : B ≤ w.heap.size) (hxa : StRd w p.st) (hxb : StRd w q.st) :
    Calls Tryz.prog 8 #[.agg p.cells, .agg q.cells] w (Is w (.bool true)) := by
 have hsl := qpz p
 refine qg (vs := [.agg p.cells, .agg q.cells]) Tryz.func8 rfl rfl (by kernel_rfl) (σ0 := [(0, .agg p.cells), (1, .agg q.cells)]) rfl ?_
 intro a HF
 have HM := Mem.start w
 refine wp_seq (qa ?_)
 refine fo HF 0 rfl rfl ?_
 refine e_box HF HM (cs := p.cells) rfl rfl rfl rfl (by decide) ?_
 clear HF HM; intro a w2 g2 HF HM
 refine fo HF 1 rfl rfl ?_
 refine e_box HF HM (cs := q.cells) rfl rfl rfl rfl (by decide) ?_
 clear HF HM; intro a w3 g3 HF HM
 refine fp HF 1 2 [(4, .bool false)] fun a HF => ?_
 refine qb rfl (wp_seq ?_)
 refine zc HM [.blk g3 q.cells 32, .blk g2 p.cells 32] [0, 1] [7] fun HM HS => ?_
 refine q8 (f := 2) (l := #[true, true, true, true, true, true, false, false]) (fun aS wS => ∃ (x : Snm) (y : Snm) (g5 : Nat) (g6 : Nat), Fr aS 170 [] [(6, vP g6 0), (5, vP g5 0), (30, .agg y.cells), (28, .agg x.cells), (29, .agg q.cells), (27, .agg p.cells), (4, .bool false), (3, vP g3 0), (2, vP g2 0), (0, .agg p.cells), (1, .agg q.cells)] ∧ Mem w wS (.blk g6 #[vI 0, vI 0, vQ 0, .slice none 0 0, .slice none 0 0, .slice none 0 0, .slice none 0 0, .slice none 0 0] 56 :: .blk g5 #[vI 0, vI 0, vQ 0, .slice none 0 0, .slice none 0 0, .slice none 0 0, .slice none 0 0, .slice none 0 0] 56 :: .blk g3 q.cells 32 :: .blk g2 p.cells 32 :: (stF x.st ++ (stF y.st))) ∧ (SnEq p x) ∧ (SnEq q y)) ?_ fun M1_0 => ?_
 ·
  clear HF HM HS; rintro a wM ⟨x, y, g5, g6, HF, HM, hax, hby⟩
  have HS := HM.picks (fs' := [.blk g3 q.cells 32, .blk g2 p.cells 32]) [2, 3] (by decide) rfl
  refine qm [6] (by kernel_rfl) rfl ?_
  refine all_cons ?_ all_nil
  refine qk HF (i := 6) rfl rfl ?_
  refine e_sa HF HM 1 rfl rfl rfl rfl rfl z6 rfl rfl (qa6 x) ?_
  clear HM; intro w1_6 HM
  refine keepS (HM.picks [2, 3] (by decide) rfl) (fun HS => ?_)
  refine qm [7] (by kernel_rfl) rfl ?_
  refine all_cons ?_ all_nil
  refine qk HF (i := 7) rfl rfl ?_
  refine e_sa HF HM 0 rfl rfl rfl rfl rfl z6 rfl rfl (qa6 y) ?_
  clear HM; intro w1_7 HM
  refine noS (by kernel_rfl) ?_
  refine qq (by kernel_rfl) ?_
  refine wp_seq (qa ?_)
  refine fy HF HM 0 rfl rfl rfl (v := .agg p.cells) (Yl.qr rfl rfl qx rfl (fun _ h => qe (h.blk (i := 3) rfl))) fun a HF => ?_
  replace HF := HF.sp 32 (.agg p.cells) rfl (rfl)
  refine fo HF 1 rfl rfl ?_
  refine e_cl HF [.agg p.cells] rfl rfl (qcs p hoka hfa hca _ (hxa.old HM)) ?_
  rintro _ w33 ⟨⟨A33, c33, rfl, ho, hc33⟩, hbw⟩
  refine ⟨_, rfl, ?_⟩
  replace HM := HM.callRow hbw ho
  clear HF; intro a HF
  refine fp HF 5 2 [(8, vI (chkS p)), (7, .slice A33 ((numsE p).length) c33)] fun a HF => ?_
  refine qb rfl (wp_seq (qa ?_))
  refine fy HF HM 0 rfl rfl rfl (v := .agg x.cells) (Yl.qr rfl rfl z6 rfl (fun _ h => qe (h.blk (i := 2) rfl))) fun a HF => ?_
  replace HF := HF.sp 37 (.agg x.cells) rfl (rfl)
  refine fo HF 1 rfl rfl ?_
  refine e_cl HF [.agg x.cells] rfl rfl (qk0 p x hax hoka hfa _ (HM.stL 5 rfl)) ?_
  rintro _ w38 ⟨⟨A38, c38, rfl, ho, hc38⟩, hbw⟩
  refine ⟨_, rfl, ?_⟩
  replace HM := HM.callRow hbw ho
  clear HF; intro a HF
  refine fp HF 5 2 [(10, vI (chkS p)), (9, .slice A38 ((numsE p).length) c38)] fun a HF => ?_
  refine qb rfl (wp_seq (qa ?_))
  refine fy HF HM 0 rfl rfl rfl (v := .agg p.cells) (Yl.qr rfl rfl qx rfl (fun _ h => qe (h.blk (i := 5) rfl))) fun a HF => ?_
  replace HF := HF.sp 42 (.agg p.cells) rfl (rfl)
  refine fo HF 1 rfl rfl ?_
  refine e_cl HF [.agg p.cells] rfl rfl (qcz p hoka hfa hca B _ (hL.mem HM hB) (HM.le hB) (hxa.old HM)) ?_
  rintro _ w43 ⟨⟨A43, c43, rfl, ho, hc43⟩, hbw⟩
  refine ⟨_, rfl, ?_⟩
  replace HM := HM.callRow hbw ho
  clear HF; intro a HF
  refine fp HF 5 2 [(12, vI (chkS p)), (11, .slice A43 ((outS p).length) c43)] fun a HF => ?_
  refine qb rfl (wp_seq (qa ?_))
  refine fy HF HM 0 rfl rfl rfl (v := .agg x.cells) (Yl.qr rfl rfl z6 rfl (fun _ h => qe (h.blk (i := 4) rfl))) fun a HF => ?_
  replace HF := HF.sp 47 (.agg x.cells) rfl (rfl)
  refine fo HF 1 rfl rfl ?_
  refine e_cl HF [.agg x.cells] rfl rfl (qq1 p x hax hoka hfa _ (HM.stL 7 rfl)) ?_
  rintro _ w48 ⟨⟨A48, c48, rfl, ho, hc48⟩, hbw⟩
  refine ⟨_, rfl, ?_⟩
  replace HM := HM.callRow hbw ho
  clear HF; intro a HF
  refine fp HF 5 2 [(13, .slice A48 ((outS p).length) c48)] fun a HF => ?_
  refine qb rfl (wp_seq (qa ?_))
  refine fy HF HM 0 rfl rfl rfl (v := .agg p.cells) (Yl.qr rfl rfl qx rfl (fun _ h => qe (h.blk (i := 7) rfl))) fun a HF => ?_
  replace HF := HF.sp 52 (.agg p.cells) rfl (rfl)
  refine fo HF 1 rfl rfl ?_
  refine e_is HF HM [.agg p.cells] (.tuple #[vI ((outS p).length), vI (chkS p)]) rfl rfl (qjj p hoka hfa hca B _ (hL.mem HM hB) (HM.le hB) (hxa.old HM)) fun w53 hbw HM a HF => ?_
  refine fp HF 5 2 [(16, vI (chkS p)), (15, vI ((outS p).length))] fun a HF => ?_
  refine qb rfl (wp_seq (qa ?_))
  refine fy HF HM 0 rfl rfl rfl (v := .agg p.cells) (Yl.qr rfl rfl qx rfl (fun _ h => qe (h.blk (i := 7) rfl))) fun a HF => ?_
  replace HF := HF.sp 57 (.agg p.cells) rfl (rfl)
  refine fo HF 1 rfl rfl ?_
  refine e_is HF HM [.agg p.cells] (.tuple #[vW (sumS p), vI (chkS p)]) rfl rfl (ql4 p hoka hfa hca B _ (hL.mem HM hB) (HM.le hB) (hxa.old HM)) fun w58 hbw HM a HF => ?_
  refine fp HF 5 2 [(18, vI (chkS p)), (17, vW (sumS p))] fun a HF => ?_
  refine qb rfl (wp_seq (qa ?_))
  refine fy HF HM 0 rfl rfl rfl (v := .agg x.cells) (Yl.qr rfl rfl z6 rfl (fun _ h => qe (h.blk (i := 5) rfl))) fun a HF => ?_
  replace HF := HF.sp 62 (.agg x.cells) rfl (rfl)
  refine fo HF 1 rfl rfl ?_
  refine e_is HF HM [.agg x.cells] (.tuple #[vW (sumS p), vI (chkS p)]) rfl rfl (qu1 p x hax hoka hfa _ (HM.stL 8 rfl)) fun w63 hbw HM a HF => ?_
  refine fp HF 5 2 [(19, vW (sumS p))] fun a HF => ?_
  refine qb rfl (wp_seq (qa ?_))
  refine fy HF HM 0 rfl rfl rfl (v := .agg p.cells) (Yl.qr rfl rfl qx rfl (fun _ h => qe (h.blk (i := 7) rfl))) fun a HF => ?_
  replace HF := HF.sp 67 (.agg p.cells) rfl (rfl)
  refine fo HF 1 rfl rfl ?_
  refine e_cl HF [.agg p.cells] rfl rfl (qdt p hoka hfa hca _ (hxa.old HM)) ?_
  rintro _ w68 ⟨⟨A68, c68, rfl, ho, hc68⟩, hbw⟩
  refine ⟨_, rfl, ?_⟩
  replace HM := HM.callRow hbw ho
  clear HF; intro a HF
  refine fp HF 5 2 [(22, vI (chkS p)), (21, .slice A68 ((secsE p).length) c68)] fun a HF => ?_
  refine qb rfl (wp_seq (qa ?_))
  refine fy HF HM 0 rfl rfl rfl (v := .agg x.cells) (Yl.qr rfl rfl z6 rfl (fun _ h => qe (h.blk (i := 6) rfl))) fun a HF => ?_
  replace HF := HF.sp 72 (.agg x.cells) rfl (rfl)
  refine fo HF 1 rfl rfl ?_
  refine e_cl HF [.agg x.cells] rfl rfl (qjr p x hax hoka hfa _ (HM.stL 9 rfl)) ?_
  rintro _ w73 ⟨⟨A73, c73, rfl, ho, hc73⟩, hbw⟩
  refine ⟨_, rfl, ?_⟩
  replace HM := HM.callRow hbw ho
  clear HF; intro a HF
  refine fp HF 5 2 [(23, .slice A73 ((secsE p).length) c73)] fun a HF => ?_
  refine qb rfl (wp_seq (wp_seq (qa ?_)))
  refine fy HF HM 0 rfl rfl rfl (v := .agg p.cells) (Yl.qr rfl rfl qx rfl (fun _ h => qe (h.blk (i := 9) rfl))) fun a HF => ?_
  replace HF := HF.sp 76 (.agg p.cells) rfl (rfl)
  refine fo HF 1 rfl rfl ?_
  refine e_is HF HM [.agg p.cells] (vI (chkS p)) rfl rfl (qbu p hoka hfa hca _ (hxa.old HM)) fun w77 hbw HM a HF => ?_
  refine fp HF 3 2 [(80, .bool ((chkS p : Int) != (chkS p : Int)))] fun a HF => ?_
  rcases HF.tf 80 rfl with ⟨hb80, HF⟩ | ⟨hb80, HF⟩
  ·
   have hd80 := bne_iff_ne.1 hb80
   exact absurd rfl hd80
  have hd80 := bne_eq_false_iff_eq.1 hb80
  refine fp HF 5 5 [(85, .bool ((chkS p : Int) != (chkS p : Int)))] fun a HF => ?_
  rcases HF.tf 85 rfl with ⟨hb85, HF⟩ | ⟨hb85, HF⟩
  ·
   have hd85 := bne_iff_ne.1 hb85
   exact absurd rfl hd85
  have hd85 := bne_eq_false_iff_eq.1 hb85
  refine fp HF 5 10 [(90, .bool ((chkS p : Int) != (chkS p : Int)))] fun a HF => ?_
  rcases HF.tf 90 rfl with ⟨hb90, HF⟩ | ⟨hb90, HF⟩
  ·
   have hd90 := bne_iff_ne.1 hb90
   exact absurd rfl hd90
  have hd90 := bne_eq_false_iff_eq.1 hb90
  refine fp HF 5 15 [(95, .bool ((chkS p : Int) != (chkS p : Int)))] fun a HF => ?_
  rcases HF.tf 95 rfl with ⟨hb95, HF⟩ | ⟨hb95, HF⟩
  ·
   have hd95 := bne_iff_ne.1 hb95
   exact absurd rfl hd95
  have hd95 := bne_eq_false_iff_eq.1 hb95
  refine fp HF 5 20 [(100, .bool ((chkS p : Int) != (chkS p : Int)))] fun a HF => ?_
  rcases HF.tf 100 rfl with ⟨hb100, HF⟩ | ⟨hb100, HF⟩
  ·
   have hd100 := bne_iff_ne.1 hb100
   exact absurd rfl hd100
  have hd100 := bne_eq_false_iff_eq.1 hb100
  refine fp HF 5 25 [(105, .bool ((chkS p : Int) != (chkS p : Int)))] fun a HF => ?_
  rcases HF.tf 105 rfl with ⟨hb105, HF⟩ | ⟨hb105, HF⟩
  ·
   have hd105 := bne_iff_ne.1 hb105
   exact absurd rfl hd105
  have hd105 := bne_eq_false_iff_eq.1 hb105
  refine fp HF 2 30 [(107, .slice A38 ((numsE p).length) c38), (106, .slice A33 ((numsE p).length) c33)] fun a HF => ?_
  refine fo HF 32 rfl rfl ?_
  refine e_is HF HM [.slice A33 ((numsE p).length) c33, .slice A38 ((numsE p).length) c38] (.bool true) rfl rfl (qha A33 c33 (numsE p) A38 c38 _ (HM.rd (i := 5) rfl) (HM.rd (i := 4) rfl) (by have := qq2 p; omega)) fun w108 hbw HM a HF => ?_
  refine fp HF 4 33 [(112, .slice A43 ((outS p).length) c43), (111, .bool false)] fun a HF => ?_
  refine fy HF HM 37 rfl rfl rfl (v := .string (bstr (outS p))) (Yl.str rfl rfl (fun _ h => h.rd (i := 3) rfl)) fun a HF => ?_
  refine fp HF 1 38 [(114, .slice A48 ((outS p).length) c48)] fun a HF => ?_
  refine fy HF HM 39 rfl rfl rfl (v := .string (bstr (outS p))) (Yl.str rfl rfl (fun _ h => h.rd (i := 2) rfl)) fun a HF => ?_
  refine fp HF 3 40 [(118, .bool (!(((bstr (outS p))).toList == ((bstr (outS p))).toList)))] fun a HF => ?_
  rcases HF.tf 118 rfl with ⟨hb118, HF⟩ | ⟨hb118, HF⟩
  ·
   rw [qof] at hb118; cases hb118
  refine fp HF 2 43 [(120, .slice A48 ((outS p).length) c48), (119, vI ((outS p).length))] fun a HF => ?_
  refine fy HF HM 45 rfl rfl rfl (Yl.len rfl rfl (by kernel_rfl)) fun a HF => ?_
  refine fp HF 3 46 [(124, .bool (((outS p).length : Int) != (((outS p).length : Nat) : Int)))] fun a HF => ?_
  rcases HF.tf 124 rfl with ⟨hb124, HF⟩ | ⟨hb124, HF⟩
  ·
   have hd124 := bne_iff_ne.1 hb124
   exact absurd rfl hd124
  have hd124 := bne_eq_false_iff_eq.1 hb124
  refine fp HF 5 49 [(129, .bool ((sumS p : Int) != (sumS p : Int)))] fun a HF => ?_
  rcases HF.tf 129 rfl with ⟨hb129, HF⟩ | ⟨hb129, HF⟩
  ·
   have hd129 := bne_iff_ne.1 hb129
   exact absurd rfl hd129
  have hd129 := bne_eq_false_iff_eq.1 hb129
  refine fp HF 1 54 [(130, .slice A68 ((secsE p).length) c68)] fun a HF => ?_
  refine fy HF HM 55 rfl rfl rfl (Yl.len rfl rfl (by kernel_rfl)) fun a HF => ?_
  refine fp HF 1 56 [(132, .slice A73 ((secsE p).length) c73)] fun a HF => ?_
  refine fy HF HM 57 rfl rfl rfl (Yl.len rfl rfl (by kernel_rfl)) fun a HF => ?_
  refine fp HF 2 58 [(135, .bool ((((secsE p).length : Nat) : Int) != (((secsE p).length : Nat) : Int)))] fun a HF => ?_
  refine qb rfl ?_
  replace HF := HF.to [(135, .bool ((((secsE p).length : Nat) : Int) != (((secsE p).length : Nat) : Int))), (23, .slice A73 ((secsE p).length) c73), (21, .slice A68 ((secsE p).length) c68), (6, vP g6 0), (5, vP g5 0), (4, .bool false), (3, vP g3 0), (2, vP g2 0)]
  rcases HF.tf 135 rfl with ⟨hb135, HF⟩ | ⟨hb135, HF⟩
  ·
   have hd135 := bne_iff_ne.1 hb135
   exact absurd rfl hd135
  have hd135 := bne_eq_false_iff_eq.1 hb135
  refine qc HF rfl (wp_skip (wp_seq (wp_seq (qa ?_))))
  refine fp HF 1 0 [(136, .slice A68 ((secsE p).length) c68)] fun a HF => ?_
  refine fy HF HM 1 rfl rfl rfl (Yl.len rfl rfl (by kernel_rfl)) fun a HF => ?_
  refine fp HF 1 2 [(138, vI 0)] fun a HF => ?_
  refine qb rfl (wp_block ?_)
  refine qo (fun mS aS wS => ∃ (k : Nat), (k ≤ (secsE p).length) ∧ mS = (secsE p).length - k ∧ Fr aS 170 [] [(138, vI k), (137, vI ((secsE p).length : Nat)), (136, .slice A68 ((secsE p).length) c68), (135, .bool false), (23, .slice A73 ((secsE p).length) c73), (21, .slice A68 ((secsE p).length) c68), (6, vP g6 0), (5, vP g5 0), (4, .bool false), (3, vP g3 0), (2, vP g2 0)] ∧ Mem w wS (.row (.slice A73 ((secsE p).length) c73) ((secsE p).length) ((secsE p).flatMap secL) 83 3 :: .row (.slice A68 ((secsE p).length) c68) ((secsE p).length) ((secsE p).flatMap secL) 82 3 :: .row (.slice A48 ((outS p).length) c48) ((outS p).length) ((outS p).map B8) 5 1 :: .row (.slice A43 ((outS p).length) c43) ((outS p).length) ((outS p).map B8) 5 1 :: .row (.slice A38 ((numsE p).length) c38) ((numsE p).length) ((numsE p).map U64) 22 1 :: .row (.slice A33 ((numsE p).length) c33) ((numsE p).length) ((numsE p).map U64) 22 1 :: .blk g6 y.cells 56 :: .blk g5 x.cells 56 :: .blk g3 q.cells 32 :: .blk g2 p.cells 32 :: (stF x.st ++ (stF y.st)))) (m := (secsE p).length - 0) ⟨0, Nat.zero_le _, rfl, HF.sub (by kernel_rfl), HM.picksT 10 [0, 1, 2, 3, 4, 5, 6, 7, 8, 9] (by decide) (by decide) rfl⟩ ?_
  clear HF HM; rintro mS a w_ ⟨k, hk, rfl, HF, HM⟩
  refine wp_seq (qa ?_)
  refine fp HF 1 0 [(139, .bool (decide ((k : Int) < (((secsE p).length : Nat) : Int))))] fun a HF => ?_
  refine qb rfl (wp_seq ?_)
  rcases HF.tf 139 rfl with ⟨hb139, HF⟩ | ⟨hb139, HF⟩
  ·
   have hd139 := of_decide_eq_true hb139
   have hk139 : k < (secsE p).length := by omega
   obtain ⟨gA68, rfl⟩ := zh (HM.own (i := 1) rfl) (Nat.lt_of_le_of_lt (Nat.zero_le _) (show k < (secsE p).length from hk139))
   obtain ⟨gA73, rfl⟩ := zh (HM.own (i := 0) rfl) (Nat.lt_of_le_of_lt (Nat.zero_le _) (show k < (secsE p).length from hk139))
   refine qd HF rfl (wp_skip (wp_seq (wp_block (wp_seq (qa ?_)))))
   refine fp HF 1 0 [(140, vI k)] fun a HF => ?_
   refine fy HF HM 1 rfl rfl rfl (v := vP gA68 (k * 3)) (Yl.ix0 gA68 k 3 rfl rfl rfl) fun a HF => ?_
   refine fy HF HM 2 rfl rfl rfl (v := .agg (((secsE p).getD k Sec.zero).cells)) (Yl.qr rfl rfl ql3 rfl (fun _ h => h.qdx qhm (i := 1) rfl ((getD_at Sec.zero hk139)))) fun a HF => ?_
   refine fo HF 3 rfl rfl ?_
   refine qs HF HM (cs := #[.string (ByteArray.mk #[]), vI 0, vI 0]) rfl (by kernel_rfl) rfl (by decide) ?_
   clear HF HM; intro a w26 g26 HF HM
   refine fp HF 1 4 [(25, vI k)] fun a HF => ?_
   refine fo HF 5 rfl rfl ?_
   refine e_sa HF HM 0 rfl rfl rfl rfl rfl ql3 rfl rfl (qse ((secsE p).getD k Sec.zero)) ?_
   clear HM; intro w15_5 HM
   refine qb rfl (wp_seq ?_)
   refine qd6 HM (.blk g26 (((secsE p).getD k Sec.zero).cells) 82 :: .row (vS gA73 ((secsE p).length) c73) ((secsE p).length) ((secsE p).flatMap secL) 83 3 :: .row (vS gA68 ((secsE p).length) c68) ((secsE p).length) ((secsE p).flatMap secL) 82 3 :: .row (.slice A48 ((outS p).length) c48) ((outS p).length) ((outS p).map B8) 5 1 :: .row (.slice A43 ((outS p).length) c43) ((outS p).length) ((outS p).map B8) 5 1 :: .row (.slice A38 ((numsE p).length) c38) ((numsE p).length) ((numsE p).map U64) 22 1 :: .row (.slice A33 ((numsE p).length) c33) ((numsE p).length) ((numsE p).map U64) 22 1 :: .blk g6 y.cells 56 :: .blk g5 x.cells 56 :: .blk g3 q.cells 32 :: .blk g2 p.cells 32 :: (stF x.st ++ (stF y.st))) 11 [0, 1, 2, 3, 4, 5, 6, 7, 8, 9, 10] [] fun HM HS => ?_
   refine ap HF (fun _ => HS) [1, 2] #[false, true, true, false, false, false] [(145, vI k), (144, vS gA73 ((secsE p).length) c73)] fun a HF => ?_
   refine ay HF HS 0 rfl rfl rfl (v := .agg (((secsE p).getD k Sec.zero).cells)) (Yl.qr rfl rfl ql3 rfl (fun _ h => qe (h.blk (i := 0) rfl))) fun a HF => ?_
   refine ay HF HS 3 rfl rfl rfl (v := vP gA73 (k * 3)) (Yl.ix0 gA73 k 3 rfl rfl rfl) fun a HF => ?_
   refine ay HF HS 4 rfl rfl rfl (v := .agg (((secsE p).getD k Sec.zero).cells)) (Yl.qr rfl rfl qux rfl (fun _ h => h.qdx qhm (i := 1) rfl ((getD_at Sec.zero hk139)))) fun a HF => ?_
   refine ay HF HS 5 rfl rfl rfl (v := .bool (!(secEq ((secsE p).getD k Sec.zero) ((secsE p).getD k Sec.zero)))) (Yl.qch rfl rfl rfl (qm5 ((secsE p).getD k Sec.zero) ((secsE p).getD k Sec.zero))) fun a HF => ?_
   refine qq (by kernel_rfl) ?_
   rcases HF.tf 148 rfl with ⟨hb148, HF⟩ | ⟨hb148, HF⟩
   ·
    rw [qgy] at hb148; cases hb148
   refine qc HF rfl (wp_skip (qa ?_))
   refine fp HF 1 0 [(149, vI (IntKind.i64.wrap ((k : Int) + 1)))] fun a HF => ?_
   replace HF := HF.sp 149 (vI (k + 1 : Nat)) rfl (qi (by omega) (by omega))
   refine fp HF 1 1 [(138, vI (k + 1 : Nat))] fun a HF => ?_
   refine qb rfl ?_
   exact ⟨_, (by omega), k + 1, by omega, rfl, HF.sub (by kernel_rfl), HM.picksT 11 [1, 2, 3, 4, 5, 6, 7, 8, 9, 10] (by decide) (by decide) rfl⟩
  have hd139 := of_decide_eq_false hb139
  refine qc HF rfl (wp_exit (wp_seq ?_))
  refine zc HM [.row (.slice A73 ((secsE p).length) c73) ((secsE p).length) ((secsE p).flatMap secL) 83 3, .row (.slice A68 ((secsE p).length) c68) ((secsE p).length) ((secsE p).flatMap secL) 82 3, .row (.slice A48 ((outS p).length) c48) ((outS p).length) ((outS p).map B8) 5 1, .row (.slice A43 ((outS p).length) c43) ((outS p).length) ((outS p).map B8) 5 1, .row (.slice A38 ((numsE p).length) c38) ((numsE p).length) ((numsE p).map U64) 22 1, .row (.slice A33 ((numsE p).length) c33) ((numsE p).length) ((numsE p).map U64) 22 1, .blk g6 y.cells 56, .blk g5 x.cells 56, .blk g3 q.cells 32, .blk g2 p.cells 32] [0, 1, 2, 3, 4, 5, 6, 7, 8, 9] [] fun HM HS => ?_
  refine ay HF HS 0 rfl rfl rfl (v := .agg p.cells) (Yl.qr rfl rfl qx rfl (fun _ h => qe (h.blk (i := 9) rfl))) fun a HF => ?_
  replace HF := HF.sp 150 (.agg p.cells) rfl (rfl)
  refine ay HF HS 1 rfl rfl rfl (v := .agg q.cells) (Yl.qr rfl rfl qx rfl (fun _ h => qe (h.blk (i := 8) rfl))) fun a HF => ?_
  replace HF := HF.sp 151 (.agg q.cells) rfl (rfl)
  refine ay HF HS 3 rfl rfl rfl (v := .agg x.cells) (Yl.qr rfl rfl z6 rfl (fun _ h => qe (h.blk (i := 7) rfl))) fun a HF => ?_
  replace HF := HF.sp 153 (.agg x.cells) rfl (rfl)
  refine ay HF HS 4 rfl rfl rfl (v := .agg y.cells) (Yl.qr rfl rfl z6 rfl (fun _ h => qe (h.blk (i := 6) rfl))) fun a HF => ?_
  replace HF := HF.sp 154 (.agg y.cells) rfl (rfl)
  refine qm [2] (by kernel_rfl) rfl ?_
  refine all_cons ?_ all_nil
  refine qk HF (i := 2) rfl rfl ?_
  refine e_is HF HM [.agg p.cells, .agg q.cells] (.bool (decide (SnEq p q))) rfl rfl (qfw p q _ (hxa.old HM) (hxb.old HM) hfa hfb) fun w152 hbw HM a HF => ?_
  refine keepS (HM.picks [0, 1, 2, 3, 4, 5, 6, 7, 8, 9] (by decide) rfl) (fun HS => ?_)
  refine qm [5] (by kernel_rfl) rfl ?_
  refine all_cons ?_ all_nil
  refine qk HF (i := 5) rfl rfl ?_
  refine e_is HF HM [.agg x.cells, .agg y.cells] (.bool (decide (SnEq p q))) rfl rfl (qsv p q x y hax hby hfa hfb _ (HM.stL 10 rfl) (HM.stR 10 rfl)) fun w155 hbw HM a HF => ?_
  refine keepS (HM.picks [0, 1, 2, 3, 4, 5, 6, 7, 8, 9] (by decide) rfl) (fun HS => ?_)
  refine ay HF HS 6 rfl rfl rfl (v := .bool ((decide (SnEq p q)) == (decide (SnEq p q)))) (Yl.qu9 rfl rfl rfl (by kernel_rfl)) fun a HF => ?_
  refine ap HF (fun _ => HS) [7] #[true, true, true, true, true, true, true, true, false, false, false, false, false, false, false, false, false, false, false, false, false] [(157, .bool ((decide (SnEq p q)) == (decide (SnEq p q))))] fun a HF => ?_
  rcases HF.tf 157 rfl with ⟨hb157, HF⟩ | ⟨hb157, HF⟩
  ·
   have hd157 := eq_of_beq hb157
   refine ay HF HS 8 rfl rfl rfl (v := .agg p.cells) (Yl.qr rfl rfl qx rfl (fun _ h => qe (h.blk (i := 9) rfl))) fun a HF => ?_
   replace HF := HF.sp 158 (.agg p.cells) rfl (rfl)
   refine ay HF HS 10 rfl rfl rfl (v := .agg x.cells) (Yl.qr rfl rfl z6 rfl (fun _ h => qe (h.blk (i := 7) rfl))) fun a HF => ?_
   replace HF := HF.sp 160 (.agg x.cells) rfl (rfl)
   refine qm [9] (by kernel_rfl) rfl ?_
   refine all_cons ?_ all_nil
   refine qk HF (i := 9) rfl rfl ?_
   refine e_cl HF [.agg p.cells] rfl rfl (z9 p _ (hxa.old HM) hfa) ?_
   rintro _ w159 ⟨x2, rfl, hax2, _, hm⟩
   refine ⟨_, rfl, ?_⟩
   replace HM := (show Mem w _ (.row (.slice A73 ((secsE p).length) c73) ((secsE p).length) ((secsE p).flatMap secL) 83 3 :: .row (.slice A68 ((secsE p).length) c68) ((secsE p).length) ((secsE p).flatMap secL) 82 3 :: .row (.slice A48 ((outS p).length) c48) ((outS p).length) ((outS p).map B8) 5 1 :: .row (.slice A43 ((outS p).length) c43) ((outS p).length) ((outS p).map B8) 5 1 :: .row (.slice A38 ((numsE p).length) c38) ((numsE p).length) ((numsE p).map U64) 22 1 :: .row (.slice A33 ((numsE p).length) c33) ((numsE p).length) ((numsE p).map U64) 22 1 :: .blk g6 y.cells 56 :: .blk g5 x.cells 56 :: .blk g3 q.cells 32 :: .blk g2 p.cells 32 :: (stF x.st ++ (stF y.st ++ (stF x2.st)))) from Mem.qwj (l := [.row (.slice A73 ((secsE p).length) c73) ((secsE p).length) ((secsE p).flatMap secL) 83 3, .row (.slice A68 ((secsE p).length) c68) ((secsE p).length) ((secsE p).flatMap secL) 82 3, .row (.slice A48 ((outS p).length) c48) ((outS p).length) ((outS p).map B8) 5 1, .row (.slice A43 ((outS p).length) c43) ((outS p).length) ((outS p).map B8) 5 1, .row (.slice A38 ((numsE p).length) c38) ((numsE p).length) ((numsE p).map U64) 22 1, .row (.slice A33 ((numsE p).length) c33) ((numsE p).length) ((numsE p).map U64) 22 1, .blk g6 y.cells 56, .blk g5 x.cells 56, .blk g3 q.cells 32, .blk g2 p.cells 32]) (A := stF x.st) (B := stF y.st) HM hm)
   clear HF; intro a HF
   refine keepS (HM.picks [0, 1, 2, 3, 4, 5, 6, 7, 8, 9] (by decide) rfl) (fun HS => ?_)
   refine qm [11] (by kernel_rfl) rfl ?_
   refine all_cons ?_ all_nil
   refine qk HF (i := 11) rfl rfl ?_
   refine e_is HF HM [.agg x2.cells, .agg x.cells] (.bool true) rfl rfl (qnn p x2 x hax2 hax hfa _ (HM.stE 10 rfl) (HM.stL 10 rfl)) fun w161 hbw HM a HF => ?_
   refine keepS (HM.picks [0, 1, 2, 3, 4, 5, 6, 7, 8, 9] (by decide) rfl) (fun HS => ?_)
   refine ap HF (fun _ => HS) [12, 13, 14, 16] #[true, true, true, true, true, true, true, true, true, true, true, true, true, true, true, false, true, false, false, false, false] [(166, vP g5 1), (164, vP g2 1), (163, .bool true)] fun a HF => ?_
   refine ay HF HS 15 rfl rfl rfl (v := .agg #[vI p.st.cpus, vQ p.st.credit, .slice p.st.gA p.st.gs.length p.st.gc, .slice p.st.lA p.st.cl.length p.st.lc, .slice p.st.uA p.st.cu.length p.st.uc, .slice p.st.tA p.st.ts.length p.st.tc, .slice p.st.sA p.st.rs.length p.st.sc]) (Yl.qr rfl rfl si_st rfl (fun _ h => h.sub (i := 9) rfl 1 rfl)) fun a HF => ?_
   replace HF := HF.sp 165 (.agg p.st.cells) rfl (rfl)
   refine ay HF HS 17 rfl rfl rfl (v := .agg #[vI x.st.cpus, vQ x.st.credit, .slice x.st.gA x.st.gs.length x.st.gc, .slice x.st.lA x.st.cl.length x.st.lc, .slice x.st.uA x.st.cu.length x.st.uc, .slice x.st.tA x.st.ts.length x.st.tc, .slice x.st.sA x.st.rs.length x.st.sc]) (Yl.qr rfl rfl si_st rfl (fun _ h => h.sub (i := 7) rfl 1 rfl)) fun a HF => ?_
   replace HF := HF.sp 167 (.agg x.st.cells) rfl (rfl)
   refine qm [18] (by kernel_rfl) rfl ?_
   refine all_cons ?_ all_nil
   refine qk HF (i := 18) rfl rfl ?_
   refine e_is HF HM [.agg p.st.cells, .agg x.st.cells] (.bool true) rfl rfl (qk1 p.st x.st (qa4 hax) _ (hxa.old HM) (HM.stL 10 rfl) hfa) fun w168 hbw HM a HF => ?_
   refine keepS (HM.picks [0, 1, 2, 3, 4, 5, 6, 7, 8, 9] (by decide) rfl) (fun HS => ?_)
   refine ap HF (fun _ => HS) [19, 20] #[true, true, true, true, true, true, true, true, true, true, true, true, true, true, true, true, true, true, true, true, true] [(4, .bool true)] fun a HF => ?_
   refine qq (by kernel_rfl) ?_
   refine wp_ret ?_
   exact ret1 rfl HF (.tmp HF rfl) (⟨rfl, HM.below⟩)
  have hd157 := ne_of_beq_false hb157
  simp at hb157
 refine q8 (f := 3) (l := #[true, true, true, true, true, false, false, false]) (fun aS wS => ∃ (x : Snm) (y : Snm) (g5 : Nat), Fr aS 170 [] [(5, vP g5 0), (30, .agg y.cells), (28, .agg x.cells), (29, .agg q.cells), (27, .agg p.cells), (4, .bool false), (3, vP g3 0), (2, vP g2 0), (0, .agg p.cells), (1, .agg q.cells)] ∧ Mem w wS (.blk g5 #[vI 0, vI 0, vQ 0, .slice none 0 0, .slice none 0 0, .slice none 0 0, .slice none 0 0, .slice none 0 0] 56 :: .blk g3 q.cells 32 :: .blk g2 p.cells 32 :: (stF x.st ++ (stF y.st))) ∧ (SnEq p x) ∧ (SnEq q y)) ?_ fun M1_1 => ?_
 ·
  clear HF HM HS; rintro a wM ⟨x, y, g5, HF, HM, hax, hby⟩
  have HS := HM.picks (fs' := [.blk g3 q.cells 32, .blk g2 p.cells 32]) [1, 2] (by decide) rfl
  refine qm [5] (by kernel_rfl) rfl ?_
  refine all_cons ?_ all_nil
  refine qk HF (i := 5) rfl rfl ?_
  refine qs HF HM (cs := #[vI 0, vI 0, vQ 0, .slice none 0 0, .slice none 0 0, .slice none 0 0, .slice none 0 0, .slice none 0 0]) rfl (by kernel_rfl) rfl (by decide) ?_
  clear HF HM; intro a w6 g6 HF HM
  refine keepS (HM.picks [2, 3] (by decide) rfl) (fun HS => ?_)
  exact M1_0 _ _ ⟨x, y, g5, g6, HF.sub (by kernel_rfl), HM.picksT 4 [0, 1, 2, 3] (by decide) (by decide) rfl, hax, hby⟩
 refine q8 (f := 3) (l := #[true, true, true, true, false, true, false, false]) (fun aS wS => ∃ (x : Snm) (y : Snm) (g6 : Nat), Fr aS 170 [] [(6, vP g6 0), (30, .agg y.cells), (28, .agg x.cells), (29, .agg q.cells), (27, .agg p.cells), (4, .bool false), (3, vP g3 0), (2, vP g2 0), (0, .agg p.cells), (1, .agg q.cells)] ∧ Mem w wS (.blk g6 #[vI 0, vI 0, vQ 0, .slice none 0 0, .slice none 0 0, .slice none 0 0, .slice none 0 0, .slice none 0 0] 56 :: .blk g3 q.cells 32 :: .blk g2 p.cells 32 :: (stF x.st ++ (stF y.st))) ∧ (SnEq p x) ∧ (SnEq q y)) ?_ fun M1_2 => ?_
 ·
  clear HF HM HS; rintro a wM ⟨x, y, g6, HF, HM, hax, hby⟩
  have HS := HM.picks (fs' := [.blk g3 q.cells 32, .blk g2 p.cells 32]) [1, 2] (by decide) rfl
  refine qm [4] (by kernel_rfl) rfl ?_
  refine all_cons ?_ all_nil
  refine qk HF (i := 4) rfl rfl ?_
  refine qs HF HM (cs := #[vI 0, vI 0, vQ 0, .slice none 0 0, .slice none 0 0, .slice none 0 0, .slice none 0 0, .slice none 0 0]) rfl (by kernel_rfl) rfl (by decide) ?_
  clear HF HM; intro a w5 g5 HF HM
  refine keepS (HM.picks [2, 3] (by decide) rfl) (fun HS => ?_)
  exact M1_0 _ _ ⟨x, y, g5, g6, HF.sub (by kernel_rfl), HM.picksT 4 [1, 0, 2, 3] (by decide) (by decide) rfl, hax, hby⟩
 refine q8 (f := 3) (l := #[true, true, true, false, true, true, false, false]) (fun aS wS => ∃ (x : Snm) (g5 : Nat) (g6 : Nat), Fr aS 170 [] [(6, vP g6 0), (5, vP g5 0), (28, .agg x.cells), (29, .agg q.cells), (27, .agg p.cells), (4, .bool false), (3, vP g3 0), (2, vP g2 0), (0, .agg p.cells), (1, .agg q.cells)] ∧ Mem w wS (.blk g6 #[vI 0, vI 0, vQ 0, .slice none 0 0, .slice none 0 0, .slice none 0 0, .slice none 0 0, .slice none 0 0] 56 :: .blk g5 #[vI 0, vI 0, vQ 0, .slice none 0 0, .slice none 0 0, .slice none 0 0, .slice none 0 0, .slice none 0 0] 56 :: .blk g3 q.cells 32 :: .blk g2 p.cells 32 :: stF x.st) ∧ (SnEq p x)) ?_ fun M1_3 => ?_
 ·
  clear HF HM HS; rintro a wM ⟨x, g5, g6, HF, HM, hax⟩
  have HS := HM.picks (fs' := [.blk g3 q.cells 32, .blk g2 p.cells 32]) [2, 3] (by decide) rfl
  refine qm [3] (by kernel_rfl) rfl ?_
  refine all_cons ?_ all_nil
  refine qk HF (i := 3) rfl rfl ?_
  refine e_cl HF [.agg q.cells] rfl rfl (z9 q _ (hxb.old HM) hfb) ?_
  rintro _ w30 ⟨y, rfl, hby, _, hm⟩
  refine ⟨_, rfl, ?_⟩
  replace HM := (show Mem w _ (.blk g6 #[vI 0, vI 0, vQ 0, .slice none 0 0, .slice none 0 0, .slice none 0 0, .slice none 0 0, .slice none 0 0] 56 :: .blk g5 #[vI 0, vI 0, vQ 0, .slice none 0 0, .slice none 0 0, .slice none 0 0, .slice none 0 0, .slice none 0 0] 56 :: .blk g3 q.cells 32 :: .blk g2 p.cells 32 :: (stF x.st ++ (stF y.st))) from HM.joinT hm)
  clear HF; intro a HF
  refine keepS (HM.picks [2, 3] (by decide) rfl) (fun HS => ?_)
  exact M1_0 _ _ ⟨x, y, g5, g6, HF.sub (by kernel_rfl), HM.picksT 4 [0, 1, 2, 3] (by decide) (by decide) rfl, hax, hby⟩
 refine q8 (f := 4) (l := #[true, true, true, false, true, false, false, false]) (fun aS wS => ∃ (x : Snm) (g5 : Nat), Fr aS 170 [] [(5, vP g5 0), (28, .agg x.cells), (29, .agg q.cells), (27, .agg p.cells), (4, .bool false), (3, vP g3 0), (2, vP g2 0), (0, .agg p.cells), (1, .agg q.cells)] ∧ Mem w wS (.blk g5 #[vI 0, vI 0, vQ 0, .slice none 0 0, .slice none 0 0, .slice none 0 0, .slice none 0 0, .slice none 0 0] 56 :: .blk g3 q.cells 32 :: .blk g2 p.cells 32 :: stF x.st) ∧ (SnEq p x)) ?_ fun M1_4 => ?_
 ·
  clear HF HM HS; rintro a wM ⟨x, g5, HF, HM, hax⟩
  have HS := HM.picks (fs' := [.blk g3 q.cells 32, .blk g2 p.cells 32]) [1, 2] (by decide) rfl
  refine qm [3, 5] (by kernel_rfl) rfl ?_
  refine all_cons ?_ ?_
  ·refine qk HF (i := 3) rfl rfl ?_
   refine e_cl HF [.agg q.cells] rfl rfl (z9 q _ (hxb.old HM) hfb) ?_
   rintro _ w30 ⟨y, rfl, hby, _, hm⟩
   refine ⟨_, rfl, ?_⟩
   replace HM := (show Mem w _ (.blk g5 #[vI 0, vI 0, vQ 0, .slice none 0 0, .slice none 0 0, .slice none 0 0, .slice none 0 0, .slice none 0 0] 56 :: .blk g3 q.cells 32 :: .blk g2 p.cells 32 :: (stF x.st ++ (stF y.st))) from HM.joinT hm)
   clear HF; intro a HF
   refine keepS (HM.picks [1, 2] (by decide) rfl) (fun HS => ?_)
   exact M1_1 _ _ ⟨x, y, g5, HF.sub (by kernel_rfl), HM.picksT 3 [0, 1, 2] (by decide) (by decide) rfl, hax, hby⟩
  refine all_cons ?_ all_nil
  refine qk HF (i := 5) rfl rfl ?_
  refine qs HF HM (cs := #[vI 0, vI 0, vQ 0, .slice none 0 0, .slice none 0 0, .slice none 0 0, .slice none 0 0, .slice none 0 0]) rfl (by kernel_rfl) rfl (by decide) ?_
  clear HF HM; intro a w6 g6 HF HM
  refine keepS (HM.picks [2, 3] (by decide) rfl) (fun HS => ?_)
  exact M1_3 _ _ ⟨x, g5, g6, HF.sub (by kernel_rfl), HM.picksT 4 [0, 1, 2, 3] (by decide) (by decide) rfl, hax⟩
 refine q8 (f := 4) (l := #[true, true, true, false, false, true, false, false]) (fun aS wS => ∃ (x : Snm) (g6 : Nat), Fr aS 170 [] [(6, vP g6 0), (28, .agg x.cells), (29, .agg q.cells), (27, .agg p.cells), (4, .bool false), (3, vP g3 0), (2, vP g2 0), (0, .agg p.cells), (1, .agg q.cells)] ∧ Mem w wS (.blk g6 #[vI 0, vI 0, vQ 0, .slice none 0 0, .slice none 0 0, .slice none 0 0, .slice none 0 0, .slice none 0 0] 56 :: .blk g3 q.cells 32 :: .blk g2 p.cells 32 :: stF x.st) ∧ (SnEq p x)) ?_ fun M1_5 => ?_
 ·
  clear HF HM HS; rintro a wM ⟨x, g6, HF, HM, hax⟩
  have HS := HM.picks (fs' := [.blk g3 q.cells 32, .blk g2 p.cells 32]) [1, 2] (by decide) rfl
  refine qm [3, 4] (by kernel_rfl) rfl ?_
  refine all_cons ?_ ?_
  ·refine qk HF (i := 3) rfl rfl ?_
   refine e_cl HF [.agg q.cells] rfl rfl (z9 q _ (hxb.old HM) hfb) ?_
   rintro _ w30 ⟨y, rfl, hby, _, hm⟩
   refine ⟨_, rfl, ?_⟩
   replace HM := (show Mem w _ (.blk g6 #[vI 0, vI 0, vQ 0, .slice none 0 0, .slice none 0 0, .slice none 0 0, .slice none 0 0, .slice none 0 0] 56 :: .blk g3 q.cells 32 :: .blk g2 p.cells 32 :: (stF x.st ++ (stF y.st))) from HM.joinT hm)
   clear HF; intro a HF
   refine keepS (HM.picks [1, 2] (by decide) rfl) (fun HS => ?_)
   exact M1_2 _ _ ⟨x, y, g6, HF.sub (by kernel_rfl), HM.picksT 3 [0, 1, 2] (by decide) (by decide) rfl, hax, hby⟩
  refine all_cons ?_ all_nil
  refine qk HF (i := 4) rfl rfl ?_
  refine qs HF HM (cs := #[vI 0, vI 0, vQ 0, .slice none 0 0, .slice none 0 0, .slice none 0 0, .slice none 0 0, .slice none 0 0]) rfl (by kernel_rfl) rfl (by decide) ?_
  clear HF HM; intro a w5 g5 HF HM
  refine keepS (HM.picks [2, 3] (by decide) rfl) (fun HS => ?_)
  exact M1_3 _ _ ⟨x, g5, g6, HF.sub (by kernel_rfl), HM.picksT 4 [1, 0, 2, 3] (by decide) (by decide) rfl, hax⟩
 refine q8 (f := 4) (l := #[true, false, true, false, true, true, false, false]) (fun aS wS => ∃ (g5 : Nat) (g6 : Nat), Fr aS 170 [] [(6, vP g6 0), (5, vP g5 0), (29, .agg q.cells), (27, .agg p.cells), (4, .bool false), (3, vP g3 0), (2, vP g2 0), (0, .agg p.cells), (1, .agg q.cells)] ∧ Mem w wS [.blk g6 #[vI 0, vI 0, vQ 0, .slice none 0 0, .slice none 0 0, .slice none 0 0, .slice none 0 0, .slice none 0 0] 56, .blk g5 #[vI 0, vI 0, vQ 0, .slice none 0 0, .slice none 0 0, .slice none 0 0, .slice none 0 0, .slice none 0 0] 56, .blk g3 q.cells 32, .blk g2 p.cells 32]) ?_ fun M1_6 => ?_
 ·
  clear HF HM HS; rintro a wM ⟨g5, g6, HF, HM⟩
  have HS := HM.picks (fs' := [.blk g3 q.cells 32, .blk g2 p.cells 32]) [2, 3] (by decide) rfl
  refine qm [1] (by kernel_rfl) rfl ?_
  refine all_cons ?_ all_nil
  refine qk HF (i := 1) rfl rfl ?_
  refine e_cl HF [.agg p.cells] rfl rfl (z9 p _ (hxa.old HM) hfa) ?_
  rintro _ w28 ⟨x, rfl, hax, _, hm⟩
  refine ⟨_, rfl, ?_⟩
  replace HM := (show Mem w _ (.blk g6 #[vI 0, vI 0, vQ 0, .slice none 0 0, .slice none 0 0, .slice none 0 0, .slice none 0 0, .slice none 0 0] 56 :: .blk g5 #[vI 0, vI 0, vQ 0, .slice none 0 0, .slice none 0 0, .slice none 0 0, .slice none 0 0, .slice none 0 0] 56 :: .blk g3 q.cells 32 :: .blk g2 p.cells 32 :: stF x.st) from HM.joinT hm)
  clear HF; intro a HF
  refine keepS (HM.picks [2, 3] (by decide) rfl) (fun HS => ?_)
  exact M1_3 _ _ ⟨x, g5, g6, HF.sub (by kernel_rfl), HM.picksT 4 [0, 1, 2, 3] (by decide) (by decide) rfl, hax⟩
 refine ay HF HS 0 rfl rfl rfl (v := .agg p.cells) (Yl.qr rfl rfl qx rfl (fun _ h => qe (h.blk (i := 1) rfl))) fun a HF => ?_
 replace HF := HF.sp 27 (.agg p.cells) rfl (rfl)
 refine ay HF HS 2 rfl rfl rfl (v := .agg q.cells) (Yl.qr rfl rfl qx rfl (fun _ h => qe (h.blk (i := 0) rfl))) fun a HF => ?_
 replace HF := HF.sp 29 (.agg q.cells) rfl (rfl)
 refine qm [1, 4, 5] (by kernel_rfl) rfl ?_
 refine all_cons ?_ ?_
 ·refine qk HF (i := 1) rfl rfl ?_
  refine e_cl HF [.agg p.cells] rfl rfl (z9 p _ (hxa.old HM) hfa) ?_
  rintro _ w28 ⟨x, rfl, hax, _, hm⟩
  refine ⟨_, rfl, ?_⟩
  replace HM := (show Mem w _ (.blk g3 q.cells 32 :: .blk g2 p.cells 32 :: stF x.st) from HM.joinT hm)
  clear HF; intro a HF
  refine keepS (HM.picks [0, 1] (by decide) rfl) (fun HS => ?_)
  refine qm [3, 4, 5] (by kernel_rfl) rfl ?_
  refine all_cons ?_ ?_
  ·refine qk HF (i := 3) rfl rfl ?_
   refine e_cl HF [.agg q.cells] rfl rfl (z9 q _ (hxb.old HM) hfb) ?_
   rintro _ w30 ⟨y, rfl, hby, _, hm⟩
   refine ⟨_, rfl, ?_⟩
   replace HM := (show Mem w _ (.blk g3 q.cells 32 :: .blk g2 p.cells 32 :: (stF x.st ++ (stF y.st))) from HM.joinT hm)
   clear HF; intro a HF
   refine keepS (HM.picks [0, 1] (by decide) rfl) (fun HS => ?_)
   refine qm [4, 5] (by kernel_rfl) rfl ?_
   refine all_cons ?_ ?_
   ·refine qk HF (i := 4) rfl rfl ?_
    refine qs HF HM (cs := #[vI 0, vI 0, vQ 0, .slice none 0 0, .slice none 0 0, .slice none 0 0, .slice none 0 0, .slice none 0 0]) rfl (by kernel_rfl) rfl (by decide) ?_
    clear HF HM; intro a w5 g5 HF HM
    refine keepS (HM.picks [1, 2] (by decide) rfl) (fun HS => ?_)
    exact M1_1 _ _ ⟨x, y, g5, HF.sub (by kernel_rfl), HM.picksT 3 [0, 1, 2] (by decide) (by decide) rfl, hax, hby⟩
   refine all_cons ?_ all_nil
   refine qk HF (i := 5) rfl rfl ?_
   refine qs HF HM (cs := #[vI 0, vI 0, vQ 0, .slice none 0 0, .slice none 0 0, .slice none 0 0, .slice none 0 0, .slice none 0 0]) rfl (by kernel_rfl) rfl (by decide) ?_
   clear HF HM; intro a w6 g6 HF HM
   refine keepS (HM.picks [1, 2] (by decide) rfl) (fun HS => ?_)
   exact M1_2 _ _ ⟨x, y, g6, HF.sub (by kernel_rfl), HM.picksT 3 [0, 1, 2] (by decide) (by decide) rfl, hax, hby⟩
  refine all_cons ?_ ?_
  ·refine qk HF (i := 4) rfl rfl ?_
   refine qs HF HM (cs := #[vI 0, vI 0, vQ 0, .slice none 0 0, .slice none 0 0, .slice none 0 0, .slice none 0 0, .slice none 0 0]) rfl (by kernel_rfl) rfl (by decide) ?_
   clear HF HM; intro a w5 g5 HF HM
   refine keepS (HM.picks [1, 2] (by decide) rfl) (fun HS => ?_)
   exact M1_4 _ _ ⟨x, g5, HF.sub (by kernel_rfl), HM.picksT 3 [0, 1, 2] (by decide) (by decide) rfl, hax⟩
  refine all_cons ?_ all_nil
  refine qk HF (i := 5) rfl rfl ?_
  refine qs HF HM (cs := #[vI 0, vI 0, vQ 0, .slice none 0 0, .slice none 0 0, .slice none 0 0, .slice none 0 0, .slice none 0 0]) rfl (by kernel_rfl) rfl (by decide) ?_
  clear HF HM; intro a w6 g6 HF HM
  refine keepS (HM.picks [1, 2] (by decide) rfl) (fun HS => ?_)
  exact M1_5 _ _ ⟨x, g6, HF.sub (by kernel_rfl), HM.picksT 3 [0, 1, 2] (by decide) (by decide) rfl, hax⟩
 refine all_cons ?_ ?_
 ·refine qk HF (i := 4) rfl rfl ?_
  refine qs HF HM (cs := #[vI 0, vI 0, vQ 0, .slice none 0 0, .slice none 0 0, .slice none 0 0, .slice none 0 0, .slice none 0 0]) rfl (by kernel_rfl) rfl (by decide) ?_
  clear HF HM; intro a w5 g5 HF HM
  refine keepS (HM.picks [1, 2] (by decide) rfl) (fun HS => ?_)
  refine qm [1, 5] (by kernel_rfl) rfl ?_
  refine all_cons ?_ ?_
  ·refine qk HF (i := 1) rfl rfl ?_
   refine e_cl HF [.agg p.cells] rfl rfl (z9 p _ (hxa.old HM) hfa) ?_
   rintro _ w28 ⟨x, rfl, hax, _, hm⟩
   refine ⟨_, rfl, ?_⟩
   replace HM := (show Mem w _ (.blk g5 #[vI 0, vI 0, vQ 0, .slice none 0 0, .slice none 0 0, .slice none 0 0, .slice none 0 0, .slice none 0 0] 56 :: .blk g3 q.cells 32 :: .blk g2 p.cells 32 :: stF x.st) from HM.joinT hm)
   clear HF; intro a HF
   refine keepS (HM.picks [1, 2] (by decide) rfl) (fun HS => ?_)
   exact M1_4 _ _ ⟨x, g5, HF.sub (by kernel_rfl), HM.picksT 3 [0, 1, 2] (by decide) (by decide) rfl, hax⟩
  refine all_cons ?_ all_nil
  refine qk HF (i := 5) rfl rfl ?_
  refine qs HF HM (cs := #[vI 0, vI 0, vQ 0, .slice none 0 0, .slice none 0 0, .slice none 0 0, .slice none 0 0, .slice none 0 0]) rfl (by kernel_rfl) rfl (by decide) ?_
  clear HF HM; intro a w6 g6 HF HM
  refine keepS (HM.picks [2, 3] (by decide) rfl) (fun HS => ?_)
  exact M1_6 _ _ ⟨g5, g6, HF.sub (by kernel_rfl), HM.picks [0, 1, 2, 3] (by decide) rfl⟩
 refine all_cons ?_ all_nil
 refine qk HF (i := 5) rfl rfl ?_
 refine qs HF HM (cs := #[vI 0, vI 0, vQ 0, .slice none 0 0, .slice none 0 0, .slice none 0 0, .slice none 0 0, .slice none 0 0]) rfl (by kernel_rfl) rfl (by decide) ?_
 clear HF HM; intro a w6 g6 HF HM
 refine keepS (HM.picks [1, 2] (by decide) rfl) (fun HS => ?_)
 refine qm [1, 4] (by kernel_rfl) rfl ?_
 refine all_cons ?_ ?_
 ·refine qk HF (i := 1) rfl rfl ?_
  refine e_cl HF [.agg p.cells] rfl rfl (z9 p _ (hxa.old HM) hfa) ?_
  rintro _ w28 ⟨x, rfl, hax, _, hm⟩
  refine ⟨_, rfl, ?_⟩
  replace HM := (show Mem w _ (.blk g6 #[vI 0, vI 0, vQ 0, .slice none 0 0, .slice none 0 0, .slice none 0 0, .slice none 0 0, .slice none 0 0] 56 :: .blk g3 q.cells 32 :: .blk g2 p.cells 32 :: stF x.st) from HM.joinT hm)
  clear HF; intro a HF
  refine keepS (HM.picks [1, 2] (by decide) rfl) (fun HS => ?_)
  exact M1_5 _ _ ⟨x, g6, HF.sub (by kernel_rfl), HM.picksT 3 [0, 1, 2] (by decide) (by decide) rfl, hax⟩
 refine all_cons ?_ all_nil
 refine qk HF (i := 4) rfl rfl ?_
 refine qs HF HM (cs := #[vI 0, vI 0, vQ 0, .slice none 0 0, .slice none 0 0, .slice none 0 0, .slice none 0 0, .slice none 0 0]) rfl (by kernel_rfl) rfl (by decide) ?_
 clear HF HM; intro a w5 g5 HF HM
 refine keepS (HM.picks [2, 3] (by decide) rfl) (fun HS => ?_)
 exact M1_6 _ _ ⟨g5, g6, HF.sub (by kernel_rfl), HM.picks [1, 0, 2, 3] (by decide) rfl⟩
end Go.Proofs.YtggpmlaappaopaaGreatDoor
