/- Parts. -/
import Derived.Test.YtggpmlaappaopaaGreatDoorQsRnd2
import Derived.Test.YtggpmlaappaopaaGreatDoorQsIs
import Derived.Test.YtggpmlaappaopaaGreatDoorQsSep14
import Derived.Test.YtggpmlaappaopaaGreatDoorQsSep8
import Derived.Test.YtggpmlaappaopaaGreatDoorQsRef01
import Derived.Test.YtggpmlaappaopaaGreatDoorQsSep16
import Derived.Test.YtggpmlaappaopaaGreatDoorQsSep13
import Derived.Test.YtggpmlaappaopaaGreatDoorQsCrcP
import Derived.Test.YtggpmlaappaopaaGreatDoorQsSep17
import Derived.Test.YtggpmlaappaopaaGreatDoorQsVarint
import Derived.Test.YtggpmlaappaopaaGreatDoorQsZ2
set_option linter.all false
set_option maxRecDepth 100000
set_option maxHeartbeats 1000000
namespace Go.Proofs.YtggpmlaappaopaaGreatDoor
open Go.RowKit
theorem z8 (A : Option Addr) (c : Nat) (l : List Int) (w : World) (hr : Rd w w.heap.size 1 A l.length (l.map I64i)) (hn : l.length ≤ 1000000) :
    Calls Tryz.prog 37 #[.slice A l.length c] w (quc w l) := by
 refine qg (vs := [.slice A l.length c]) Tryz.func37 rfl rfl (by kernel_rfl) (σ0 := [(0, .slice A l.length c)]) rfl ?_
 intro a HF
 have HM := Mem.start w
 refine wp_seq (qa ?_)
 refine fp HF 1 0 [(2, .slice none 0 0)] fun a HF => ?_
 refine qb rfl (wp_seq (qa ?_))
 refine fp HF 1 0 [(3, .slice none 0 0)] fun a HF => ?_
 refine qb rfl (wp_seq (qa ?_))
 refine fp HF 2 0 [(5, .slice A l.length c), (4, .slice none 0 0)] fun a HF => ?_
 refine fo HF 2 rfl rfl ?_
 replace HM := HM.nil 3 1
 refine qw HF HM (i := 0) rfl qa9 rfl rfl rfl (news := (l.map I64i)) (HM.old hr) (qpu _) (by omega) (by omega) rfl (by decide) ?_
 clear HF HM; intro a w6 A6 c6 HF HM hc6
 have hnA6 : 0 + l.length = l.length := Nat.zero_add _
 replace HM := HM.reRow (i := 0) (ys := l.map I64i) rfl hnA6 (rfl)
 rw [hnA6] at hc6
 replace HF := HF.as (t := 6) (u := .slice A6 l.length c6) rfl (by rw [hnA6])
 refine fp HF 1 3 [(2, .slice A6 l.length c6)] fun a HF => ?_
 refine qb rfl (wp_ret ?_)
 exact ret1 rfl HF (.tmp HF rfl) (⟨⟨_, _, rfl, HM.own (i := 0) rfl, hc6⟩, HM.below⟩)
theorem zo (x : Stm) (w : World) (hx : StRd w x) (hn : x.gs.length ≤ 1000000) :
    Calls Tryz.prog 36 #[.agg #[.int .i64 x.cpus, .int .u64 (x.credit : Int), .slice x.gA x.gs.length x.gc]] w (qv0 w x) := by
 refine qg (vs := [.agg #[vI x.cpus, vQ x.credit, .slice x.gA x.gs.length x.gc]]) Tryz.func36 rfl rfl (by kernel_rfl) (σ0 := [(0, .agg #[vI x.cpus, vQ x.credit, .slice x.gA x.gs.length x.gc])]) rfl ?_
 intro a HF
 have HM := Mem.start w
 refine wp_seq (qa ?_)
 refine fo HF 0 rfl rfl ?_
 refine e_box HF HM (cs := #[vI x.cpus, vQ x.credit, .slice x.gA x.gs.length x.gc]) rfl rfl rfl rfl (by decide) ?_
 clear HF HM; intro a w1 g1 HF HM
 refine fo HF 1 rfl rfl ?_
 refine qs HF HM (cs := #[vI 0, vQ 0, .slice none 0 0]) rfl (by kernel_rfl) rfl (by decide) ?_
 clear HF HM; intro a w2 g2 HF HM
 refine qb rfl (wp_seq (qa ?_))
 refine fp HF 1 0 [(3, .slice none 0 0)] fun a HF => ?_
 refine qb rfl (wp_seq (qa ?_))
 refine fp HF 2 0 [(5, vP g1 2), (4, .slice none 0 0)] fun a HF => ?_
 refine fy HF HM 2 rfl rfl rfl (Yl.qf rfl rfl (by kernel_rfl) (fun _ h => h.cell (i := 1) rfl rfl)) fun a HF => ?_
 refine fo HF 3 rfl rfl ?_
 replace HM := HM.nil 40 2
 refine qw HF HM (i := 0) rfl ei_gr rfl rfl rfl (news := (x.gs.flatMap grL)) (HM.old hx.g) (qv1 _) (by omega) (by omega) rfl (by decide) ?_
 clear HF HM; intro a w7 A7 c7 HF HM hc7
 have hnA7 : 0 + x.gs.length = x.gs.length := Nat.zero_add _
 replace HM := HM.reRow (i := 0) (ys := x.gs.flatMap grL) rfl hnA7 (rfl)
 rw [hnA7] at hc7
 replace HF := HF.as (t := 7) (u := .slice A7 x.gs.length c7) rfl (by rw [hnA7])
 refine fp HF 1 4 [(8, vP g1 2)] fun a HF => ?_
 refine fo HF 5 rfl rfl ?_
 refine q4 HF HM (i := 2) rfl rfl rfl rfl (by kernel_rfl) rfl rfl (by simp) ?_
 clear HM; intro w2_5 HM
 refine qb rfl (wp_seq (qa ?_))
 refine fy HF HM 0 rfl rfl rfl (v := .agg #[vI x.cpus, vQ x.credit, .slice A7 x.gs.length c7]) (Yl.qr rfl rfl qas rfl (fun _ h => qe (h.blk (i := 2) rfl))) fun a HF => ?_
 refine fo HF 1 rfl rfl ?_
 refine e_sa HF HM 1 rfl rfl rfl rfl rfl qas rfl rfl (by simp [Value.oneCell']) ?_
 clear HM; intro w3_1 HM
 refine qb rfl (wp_ret ?_)
 exact ret1 rfl HF (.cellS (i := 1) HF HM rfl rfl qas rfl) (⟨⟨_, _, rfl, HM.own (i := 0) rfl, hc7⟩, HM.below⟩)
theorem qcd (x : Stm) (w : World) (hx : StRd w x) (hf : StFew x) :
    Calls Tryz.prog 11 #[.agg x.cells] w (qth w x) := by
 have hfg := hf.g; have hfl := hf.l; have hfu := hf.u; have hft := hf.t; have hfs := hf.s
 refine qg (vs := [.agg x.cells]) Tryz.func11 rfl rfl (by kernel_rfl) (σ0 := [(0, .agg x.cells)]) rfl ?_
 intro a HF
 have HM := Mem.start w
 refine wp_seq (qa ?_)
 refine fo HF 0 rfl rfl ?_
 refine e_box HF HM (cs := x.cells) rfl rfl rfl rfl (by decide) ?_
 clear HF HM; intro a w1 g1 HF HM
 refine fo HF 1 rfl rfl ?_
 refine qs HF HM (cs := #[vI 0, vQ 0, .slice none 0 0, .slice none 0 0, .slice none 0 0, .slice none 0 0, .slice none 0 0]) rfl (by kernel_rfl) rfl (by decide) ?_
 clear HF HM; intro a w2 g2 HF HM
 refine qb rfl (wp_seq (qa ?_))
 refine fp HF 1 0 [(3, .slice none 0 0)] fun a HF => ?_
 refine qb rfl (wp_seq (qa ?_))
 refine fp HF 1 0 [(4, .slice none 0 0)] fun a HF => ?_
 refine qb rfl ?_
 replace HM := HM.nil 44 1
 replace HM := HM.newTail 43 3
 replace HM : Mem w _ (.row (.slice none 0 0) 0 [] 44 1 :: .blk g2 #[vI 0, vQ 0, .slice none 0 0, .slice none 0 0, .slice none 0 0, .slice none 0 0, .slice none 0 0] 30 :: .blk g1 x.cells 30 :: rwF 43 []) := HM
 refine wp_seq (wp_seq (qa ?_))
 refine fp HF 1 0 [(5, vI 0)] fun a HF => ?_
 refine qb rfl (wp_block ?_)
 refine qo (fun mS aS wS => ∃ (i : Nat) (z : List Rw) (As : Option Addr) (cs : Nat), (i ≤ x.rs.length) ∧ (z.length = i) ∧ (z.map Rw.l = (x.rs.take i).map Rw.l) ∧ (∀ q ∈ z, q.l.length ≤ q.c) ∧ (z.length ≤ cs) ∧ mS = x.rs.length - i ∧ Fr aS 44 [] [(5, vI i), (4, .slice As z.length cs), (3, .slice none 0 0), (2, vP g2 0), (1, vP g1 0)] ∧ Mem w wS (.row (.slice As z.length cs) z.length (z.map Rw.val) 44 1 :: .blk g2 #[vI 0, vQ 0, .slice none 0 0, .slice none 0 0, .slice none 0 0, .slice none 0 0, .slice none 0 0] 30 :: .blk g1 x.cells 30 :: rwF 43 z)) (m := x.rs.length - 0) ⟨0, [], none, 0, Nat.zero_le _, rfl, rfl, (fun q h => by cases h), Nat.le_refl _, rfl, HF.sub (by kernel_rfl), HM.picksT 3 [0, 1, 2] (by decide) (by decide) rfl⟩ ?_
 clear HF HM; rintro mS a w_ ⟨i, z, As, cs, hi, hzl, hz, hzc, hcs, rfl, HF, HM⟩
 refine wp_seq (wp_seq (qa ?_))
 refine fp HF 2 0 [(8, vP g1 6), (7, vI i)] fun a HF => ?_
 refine fy HF HM 2 rfl rfl rfl (v := .slice x.sA x.rs.length x.sc) (Yl.qf rfl rfl (by kernel_rfl) (fun _ h => h.cell (i := 2) rfl (rfl))) fun a HF => ?_
 refine fy HF HM 3 rfl rfl rfl (Yl.len rfl rfl (by kernel_rfl)) fun a HF => ?_
 refine fp HF 1 4 [(11, .bool (decide ((i : Int) < (x.rs.length : Int))))] fun a HF => ?_
 refine qb rfl ?_
 rcases HF.tf 11 rfl with ⟨hb11, HF⟩ | ⟨hb11, HF⟩
 ·
  have hd11 := of_decide_eq_true hb11
  have hi11 : i < x.rs.length := by omega
  obtain ⟨y, hy⟩ : ∃ q, x.rs.getD i Rw.zero = q := ⟨_, rfl⟩
  have hyr : Rd w w.heap.size 3 y.A y.l.length (y.l.flatMap spL) := by rw [← hy]; exact hx.row hi11
  have hyl : y.l.length ≤ 1000000 := by rw [← hy]; exact hf.r _ (q5 Rw.zero hi11)
  refine qd HF rfl (wp_skip (wp_seq (wp_block (wp_seq (qa ?_)))))
  refine fp HF 1 0 [(6, .slice none 0 0)] fun a HF => ?_
  refine qb rfl (qa ?_)
  refine fp HF 3 0 [(16, vP g1 6), (15, .slice none 0 0), (14, .slice As z.length cs)] fun a HF => ?_
  refine fy HF HM 3 rfl rfl rfl (v := .slice x.sA x.rs.length x.sc) (Yl.qf rfl rfl (by kernel_rfl) (fun _ h => h.cell (i := 2) rfl (rfl))) fun a HF => ?_
  refine fp HF 1 4 [(18, vI i)] fun a HF => ?_
  obtain ⟨gq1, oq1, hq1, _⟩ := Rd.qp hx.s (Nat.lt_of_le_of_lt (Nat.zero_le _) (show i < x.rs.length from by omega)) (by decide)
  have hrq1 := hx.s; rw [hq1] at hrq1
  replace HF := HF.as (t := 17) (u := .slice (some ⟨gq1, oq1, none⟩) x.rs.length x.sc) rfl (by rw [hq1]; try rfl)
  refine fy HF HM 5 rfl rfl rfl (v := vP gq1 (oq1 + i * 1)) (Yl.ix gq1 oq1 i 1 rfl rfl rfl) fun a HF => ?_
  refine fy HF HM 6 rfl rfl rfl (v := .slice ((x.rs.getD i Rw.zero).A) ((x.rs.getD i Rw.zero).l.length) ((x.rs.getD i Rw.zero).c)) (Yl.qf rfl rfl (by kernel_rfl) (fun _ h => (h.old hrq1).q7 (k := i) (qz (F := Rw.val) (k := i) (x := (x.rs.getD i Rw.zero)) ((getD_at Rw.zero hi11))))) fun a HF => ?_
  replace HF := HF.sp 20 (.slice y.A y.l.length y.c) rfl (by rw [hy])
  refine fo HF 7 rfl rfl ?_
  replace HM := HM.nil 43 3
  refine qw HF HM (i := 0) rfl ei_sp rfl rfl rfl (news := (y.l.flatMap spL)) (HM.old hyr) (qv2 _) (by omega) (by omega) rfl (by decide) ?_
  clear HF HM; intro a w21 A21 c21 HF HM hc21
  have hnA21 : 0 + y.l.length = y.l.length := Nat.zero_add _
  replace HM := HM.reRow (i := 0) (ys := y.l.flatMap spL) rfl hnA21 (rfl)
  rw [hnA21] at hc21
  replace HF := HF.as (t := 21) (u := .slice A21 y.l.length c21) rfl (by rw [hnA21])
  refine fo HF 8 rfl rfl ?_
  refine qt HF HM (vs := [(0, .slice A21 y.l.length c21)]) (cs := #[.slice A21 y.l.length c21]) rfl ei_rw (by decide) rfl (by kernel_rfl) rfl (by decide) ?_
  clear HF HM; intro a w22 g22 HF HM
  refine fo HF 9 rfl rfl ?_
  refine qw HF HM (i := 2) rfl ei_rw rfl rfl rfl (news := ([(⟨A21, c21, y.l⟩ : Rw)].map Rw.val)) (HM.rdBlk (i := 0) (n := 1) (size := 1) rfl rfl) (qpv _) (by omega) (by omega) rfl (by decide) ?_
  clear HF HM; intro a w23 A23 c23 HF HM hc23
  have hnA23 : z.length + 1 = (z ++ [(⟨A21, c21, y.l⟩ : Rw)]).length := zd rfl
  replace HM := HM.reRow (i := 2) (ys := (z ++ [(⟨A21, c21, y.l⟩ : Rw)]).map Rw.val) rfl hnA23 (List.map_append.symm)
  rw [hnA23] at hc23
  replace HF := HF.as (t := 23) (u := .slice A23 ((z ++ [(⟨A21, c21, y.l⟩ : Rw)]).length) c23) rfl (by rw [hnA23])
  refine fp HF 1 10 [(4, .slice A23 ((z ++ [(⟨A21, c21, y.l⟩ : Rw)]).length) c23)] fun a HF => ?_
  refine qb rfl ?_
  replace HM := HM.picksT (fs' := (.row (.slice A21 y.l.length c21) y.l.length (y.l.flatMap spL) 43 3 :: .row (.slice A23 ((z ++ [(⟨A21, c21, y.l⟩ : Rw)]).length) c23) ((z ++ [(⟨A21, c21, y.l⟩ : Rw)]).length) ((z ++ [(⟨A21, c21, y.l⟩ : Rw)]).map Rw.val) 44 1 :: .blk g2 #[vI 0, vQ 0, .slice none 0 0, .slice none 0 0, .slice none 0 0, .slice none 0 0, .slice none 0 0] 30 :: .blk g1 x.cells 30 :: rwF 43 z)) 5 [1, 2, 3, 4] (by decide) (by decide) rfl
  replace HM := Mem.toRw (fs := [.row (.slice A23 ((z ++ [(⟨A21, c21, y.l⟩ : Rw)]).length) c23) ((z ++ [(⟨A21, c21, y.l⟩ : Rw)]).length) ((z ++ [(⟨A21, c21, y.l⟩ : Rw)]).map Rw.val) 44 1, .blk g2 #[vI 0, vQ 0, .slice none 0 0, .slice none 0 0, .slice none 0 0, .slice none 0 0, .slice none 0 0] 30, .blk g1 x.cells 30]) HM
  replace HM : Mem w _ (.row (.slice A23 ((z ++ [(⟨A21, c21, y.l⟩ : Rw)]).length) c23) ((z ++ [(⟨A21, c21, y.l⟩ : Rw)]).length) ((z ++ [(⟨A21, c21, y.l⟩ : Rw)]).map Rw.val) 44 1 :: .blk g2 #[vI 0, vQ 0, .slice none 0 0, .slice none 0 0, .slice none 0 0, .slice none 0 0, .slice none 0 0] 30 :: .blk g1 x.cells 30 :: rwF 43 (z ++ [(⟨A21, c21, y.l⟩ : Rw)])) := HM
  refine qa ?_
  refine fp HF 2 0 [(13, vI (IntKind.i64.wrap ((i : Int) + 1)))] fun a HF => ?_
  replace HF := HF.sp 13 (vI (i + 1 : Nat)) rfl (qi (by omega) (by omega))
  refine fp HF 1 2 [(5, vI (i + 1 : Nat))] fun a HF => ?_
  refine qb rfl ?_
  exact ⟨_, (by omega), i + 1, (z ++ [(⟨A21, c21, y.l⟩ : Rw)]), A23, c23, by omega, by rw [List.length_append, hzl]; rfl, by rw [List.map_append, hz, qsb hi11, hy]; rfl, fun q h => (List.mem_append.1 h).elim (hzc q) (fun h => by rw [List.mem_singleton] at h; subst h; exact hc21), hc23, rfl, HF.sub (by kernel_rfl), HM.picksT 3 [0, 1, 2] (by decide) (by decide) rfl⟩
 have hd11 := of_decide_eq_false hb11
 have hzt : x.rs.take i = x.rs := List.take_of_length_le (by omega)
 refine qc HF rfl (wp_exit (wp_seq ?_))
 refine qd6 HM (.row (.slice As z.length cs) z.length (z.map Rw.val) 44 1 :: .blk g2 #[vI 0, vQ 0, .slice none 0 0, .slice none 0 0, .slice none 0 0, .slice none 0 0, .slice none 0 0] 30 :: rwF 43 z) 3 [0, 1] [15, 21, 23] fun HM HS => ?_
 refine q8 (f := 9) (l := #[true, true, true, true, true, true, true, true, true, true, true, true, true, true, true, false, false, false, false, false, false, false, false, false]) (fun aS wS => ∃ (A26 : Option Addr) (c26 : Nat) (A29 : Option Addr) (c29 : Nat) (A32 : Option Addr) (c32 : Nat) (A36 : Option Addr) (c36 : Nat), Fr aS 44 [] [(36, .slice A36 (0 + x.ts.length) c36), (38, vP g1 0), (35, .slice x.tA x.ts.length x.tc), (32, .slice A32 x.cu.length c32), (31, .slice x.uA x.cu.length x.uc), (29, .slice A29 x.cl.length c29), (28, .slice x.lA x.cl.length x.lc), (26, .agg #[vI x.cpus, vQ x.credit, .slice A26 x.gs.length c26]), (25, .agg #[vI x.cpus, vQ x.credit, .slice x.gA x.gs.length x.gc]), (37, .slice As z.length cs), (34, vP g1 5), (33, .slice none 0 0), (30, vP g1 4), (27, vP g1 3), (24, vP g1 0), (11, .bool false), (10, vI x.rs.length), (9, .slice x.sA x.rs.length x.sc), (8, vP g1 6), (7, vI i), (5, vI i), (4, .slice As z.length cs), (3, .slice none 0 0), (2, vP g2 0), (1, vP g1 0)] ∧ Mem w wS (.row (.slice A36 (0 + x.ts.length) c36) (0 + x.ts.length) ([] ++ (x.ts.flatMap tkL)) 46 8 :: .row (.slice A32 x.cu.length c32) x.cu.length (x.cu.map I64i) 3 1 :: .row (.slice A29 x.cl.length c29) x.cl.length (x.cl.map I64i) 3 1 :: .row (.slice A26 x.gs.length c26) x.gs.length (x.gs.flatMap grL) 40 2 :: .row (.slice As z.length cs) z.length (z.map Rw.val) 44 1 :: .blk g2 #[vI 0, vQ 0, .slice none 0 0, .slice none 0 0, .slice none 0 0, .slice none 0 0, .slice none 0 0] 30 :: .blk g1 x.cells 30 :: rwF 43 z) ∧ (x.gs.length ≤ c26) ∧ (x.cl.length ≤ c29) ∧ (x.cu.length ≤ c32) ∧ (0 + x.ts.length ≤ c36)) ?_ fun M8_0 => ?_
 ·
  clear HF HM HS; rintro a wM ⟨A26, c26, A29, c29, A32, c32, A36, c36, HF, HM, hc26, hc29, hc32, hc36⟩
  have HS := HM.picksT (fs' := (.row (.slice As z.length cs) z.length (z.map Rw.val) 44 1 :: .blk g2 #[vI 0, vQ 0, .slice none 0 0, .slice none 0 0, .slice none 0 0, .slice none 0 0, .slice none 0 0] 30 :: rwF 43 z)) 7 [4, 5] (by decide) (by decide) rfl
  refine qm [15] (by kernel_rfl) rfl ?_
  refine all_cons ?_ all_nil
  refine qk HF (i := 15) rfl rfl ?_
  refine e_sp HF HM 6 (es := #[vI x.cpus, vQ x.credit, .slice A26 x.gs.length c26, .slice x.lA x.cl.length x.lc, .slice x.uA x.cu.length x.uc, .slice x.tA x.ts.length x.tc, .slice x.sA x.rs.length x.sc]) rfl rfl rfl rfl rfl qas (Nat.le_of_ble_eq_true rfl) rfl (by simp [Value.oneCell']) rfl ?_
  clear HM; intro w8_15 HM
  refine noS (by kernel_rfl) ?_
  refine ap HF (pastS (by kernel_rfl)) [16] #[true, true, true, true, true, true, true, true, true, true, true, true, true, true, true, true, true, false, false, false, false, false, false, false] [(39, vP g1 3)] fun a HF => ?_
  refine qm [17] (by kernel_rfl) rfl ?_
  refine all_cons ?_ all_nil
  refine qk HF (i := 17) rfl rfl ?_
  refine q4 HF HM (i := 6) rfl rfl rfl rfl (by kernel_rfl) rfl rfl (by simp) ?_
  clear HM; intro w8_17 HM
  refine keepS (HM.picksT 7 [4, 5] (by decide) (by decide) rfl) (fun HS => ?_)
  refine ap HF (pastS (by kernel_rfl)) [18] #[true, true, true, true, true, true, true, true, true, true, true, true, true, true, true, true, true, true, true, false, false, false, false, false] [(40, vP g1 4)] fun a HF => ?_
  refine qm [19] (by kernel_rfl) rfl ?_
  refine all_cons ?_ all_nil
  refine qk HF (i := 19) rfl rfl ?_
  refine q4 HF HM (i := 6) rfl rfl rfl rfl (by kernel_rfl) rfl rfl (by simp) ?_
  clear HM; intro w8_19 HM
  refine keepS (HM.picksT 7 [4, 5] (by decide) (by decide) rfl) (fun HS => ?_)
  refine ap HF (pastS (by kernel_rfl)) [20] #[true, true, true, true, true, true, true, true, true, true, true, true, true, true, true, true, true, true, true, true, true, false, false, false] [(41, vP g1 5)] fun a HF => ?_
  refine qm [21] (by kernel_rfl) rfl ?_
  refine all_cons ?_ all_nil
  refine qk HF (i := 21) rfl rfl ?_
  refine q4 HF HM (i := 6) rfl rfl rfl rfl (by kernel_rfl) rfl rfl (by simp) ?_
  clear HM; intro w8_21 HM
  refine noS (by kernel_rfl) ?_
  refine ap HF (pastS (by kernel_rfl)) [22] #[true, true, true, true, true, true, true, true, true, true, true, true, true, true, true, true, true, true, true, true, true, true, true, false] [(42, vP g1 6)] fun a HF => ?_
  refine qm [23] (by kernel_rfl) rfl ?_
  refine all_cons ?_ all_nil
  refine qk HF (i := 23) rfl rfl ?_
  refine q4 HF HM (i := 6) rfl rfl rfl rfl (by kernel_rfl) rfl rfl (by simp) ?_
  clear HM; intro w8_23 HM
  refine noS (by kernel_rfl) ?_
  refine qq (by kernel_rfl) ?_
  rw [Nat.zero_add] at HM hc36
  refine wp_seq (qa ?_)
  refine fy HF HM 0 rfl rfl rfl (v := .agg #[vI x.cpus, vQ x.credit, .slice A26 x.gs.length c26, .slice A29 x.cl.length c29, .slice A32 x.cu.length c32, .slice A36 x.ts.length c36, .slice As z.length cs]) (Yl.qr rfl rfl si_st rfl (fun _ h => qe (h.blk (i := 6) rfl))) fun a HF => ?_
  refine fo HF 1 rfl rfl ?_
  refine e_sa HF HM 5 rfl rfl rfl rfl rfl si_st rfl rfl (by simp [Value.oneCell']) ?_
  clear HM; intro w9_1 HM
  refine qb rfl (wp_ret ?_)
  exact ret1 rfl HF (.cellS (i := 5) HF HM rfl rfl si_st rfl) (⟨⟨x.cpus, x.credit, A26, c26, x.gs, A29, c29, x.cl, A32, c32, x.cu, A36, c36, x.ts, As, cs, z⟩, rfl, ⟨⟨rfl, rfl, rfl⟩, rfl, rfl, rfl, (by rw [hzt] at hz; exact hz.symm)⟩, ⟨hc26, hc29, hc32, hc36, hcs, hzc⟩, HM.picksT 7 [3, 2, 1, 0, 4] (by decide) (by decide) rfl⟩)
 refine q8 (f := 10) (l := #[true, true, true, true, true, true, true, true, true, true, true, true, false, true, true, false, false, false, false, false, false, false, false, false]) (fun aS wS => ∃ (A26 : Option Addr) (c26 : Nat) (A29 : Option Addr) (c29 : Nat) (A32 : Option Addr) (c32 : Nat), Fr aS 44 [] [(32, .slice A32 x.cu.length c32), (38, vP g1 0), (35, .slice x.tA x.ts.length x.tc), (31, .slice x.uA x.cu.length x.uc), (29, .slice A29 x.cl.length c29), (28, .slice x.lA x.cl.length x.lc), (26, .agg #[vI x.cpus, vQ x.credit, .slice A26 x.gs.length c26]), (25, .agg #[vI x.cpus, vQ x.credit, .slice x.gA x.gs.length x.gc]), (37, .slice As z.length cs), (34, vP g1 5), (33, .slice none 0 0), (30, vP g1 4), (27, vP g1 3), (24, vP g1 0), (11, .bool false), (10, vI x.rs.length), (9, .slice x.sA x.rs.length x.sc), (8, vP g1 6), (7, vI i), (5, vI i), (4, .slice As z.length cs), (3, .slice none 0 0), (2, vP g2 0), (1, vP g1 0)] ∧ Mem w wS (.row (.slice A32 x.cu.length c32) x.cu.length (x.cu.map I64i) 3 1 :: .row (.slice A29 x.cl.length c29) x.cl.length (x.cl.map I64i) 3 1 :: .row (.slice A26 x.gs.length c26) x.gs.length (x.gs.flatMap grL) 40 2 :: .row (.slice As z.length cs) z.length (z.map Rw.val) 44 1 :: .blk g2 #[vI 0, vQ 0, .slice none 0 0, .slice none 0 0, .slice none 0 0, .slice none 0 0, .slice none 0 0] 30 :: .blk g1 x.cells 30 :: rwF 43 z) ∧ (x.gs.length ≤ c26) ∧ (x.cl.length ≤ c29) ∧ (x.cu.length ≤ c32)) ?_ fun M8_1 => ?_
 ·
  clear HF HM HS; rintro a wM ⟨A26, c26, A29, c29, A32, c32, HF, HM, hc26, hc29, hc32⟩
  have HS := HM.picksT (fs' := (.row (.slice As z.length cs) z.length (z.map Rw.val) 44 1 :: .blk g2 #[vI 0, vQ 0, .slice none 0 0, .slice none 0 0, .slice none 0 0, .slice none 0 0, .slice none 0 0] 30 :: rwF 43 z)) 6 [3, 4] (by decide) (by decide) rfl
  refine qm [12] (by kernel_rfl) rfl ?_
  refine all_cons ?_ all_nil
  refine qk HF (i := 12) rfl rfl ?_
  replace HM := HM.nil 46 8
  refine qw HF HM (i := 0) rfl ei_tk rfl rfl rfl (news := (x.ts.flatMap tkL)) (HM.old hx.t) (qpt _) (by omega) (by omega) rfl (by decide) ?_
  clear HF HM; intro a w36 A36 c36 HF HM hc36
  refine keepS (HM.picksT 7 [4, 5] (by decide) (by decide) rfl) (fun HS => ?_)
  exact M8_0 _ _ ⟨A26, c26, A29, c29, A32, c32, A36, c36, HF.sub (by kernel_rfl), HM.picksT 7 [0, 1, 2, 3, 4, 5, 6] (by decide) (by decide) rfl, hc26, hc29, hc32, hc36⟩
 refine q8 (f := 12) (l := #[true, true, true, true, true, true, true, true, false, true, true, true, false, true, false, false, false, false, false, false, false, false, false, false]) (fun aS wS => ∃ (A26 : Option Addr) (c26 : Nat) (A29 : Option Addr) (c29 : Nat), Fr aS 44 [] [(35, .slice x.tA x.ts.length x.tc), (31, .slice x.uA x.cu.length x.uc), (29, .slice A29 x.cl.length c29), (28, .slice x.lA x.cl.length x.lc), (26, .agg #[vI x.cpus, vQ x.credit, .slice A26 x.gs.length c26]), (25, .agg #[vI x.cpus, vQ x.credit, .slice x.gA x.gs.length x.gc]), (37, .slice As z.length cs), (34, vP g1 5), (33, .slice none 0 0), (30, vP g1 4), (27, vP g1 3), (24, vP g1 0), (11, .bool false), (10, vI x.rs.length), (9, .slice x.sA x.rs.length x.sc), (8, vP g1 6), (7, vI i), (5, vI i), (4, .slice As z.length cs), (3, .slice none 0 0), (2, vP g2 0), (1, vP g1 0)] ∧ Mem w wS (.row (.slice A29 x.cl.length c29) x.cl.length (x.cl.map I64i) 3 1 :: .row (.slice A26 x.gs.length c26) x.gs.length (x.gs.flatMap grL) 40 2 :: .row (.slice As z.length cs) z.length (z.map Rw.val) 44 1 :: .blk g2 #[vI 0, vQ 0, .slice none 0 0, .slice none 0 0, .slice none 0 0, .slice none 0 0, .slice none 0 0] 30 :: .blk g1 x.cells 30 :: rwF 43 z) ∧ (x.gs.length ≤ c26) ∧ (x.cl.length ≤ c29)) ?_ fun M8_2 => ?_
 ·
  clear HF HM HS; rintro a wM ⟨A26, c26, A29, c29, HF, HM, hc26, hc29⟩
  have HS := HM.picksT (fs' := (.row (.slice As z.length cs) z.length (z.map Rw.val) 44 1 :: .blk g2 #[vI 0, vQ 0, .slice none 0 0, .slice none 0 0, .slice none 0 0, .slice none 0 0, .slice none 0 0] 30 :: rwF 43 z)) 5 [2, 3] (by decide) (by decide) rfl
  refine ap HF (fun _ => HS) [14] #[true, true, true, true, true, true, true, true, false, true, true, true, false, true, true, false, false, false, false, false, false, false, false, false] [(38, vP g1 0)] fun a HF => ?_
  refine qm [8] (by kernel_rfl) rfl ?_
  refine all_cons ?_ all_nil
  refine qk HF (i := 8) rfl rfl ?_
  refine e_cl HF [.slice x.uA x.cu.length x.uc] rfl rfl (z8 x.uA x.uc x.cu _ (HM.old hx.u) hf.u) ?_
  rintro _ w32 ⟨⟨A32, c32, rfl, ho, hc32⟩, hbw⟩
  refine ⟨_, rfl, ?_⟩
  replace HM := HM.callRow hbw ho
  clear HF; intro a HF
  refine keepS (HM.picksT 6 [3, 4] (by decide) (by decide) rfl) (fun HS => ?_)
  exact M8_1 _ _ ⟨A26, c26, A29, c29, A32, c32, HF.sub (by kernel_rfl), HM.picksT 6 [0, 1, 2, 3, 4, 5] (by decide) (by decide) rfl, hc26, hc29, hc32⟩
 refine q8 (f := 13) (l := #[true, true, true, true, true, true, true, true, false, true, true, false, false, true, false, false, false, false, false, false, false, false, false, false]) (fun aS wS => ∃ (A26 : Option Addr) (c26 : Nat) (A29 : Option Addr) (c29 : Nat), Fr aS 44 [] [(31, .slice x.uA x.cu.length x.uc), (29, .slice A29 x.cl.length c29), (28, .slice x.lA x.cl.length x.lc), (26, .agg #[vI x.cpus, vQ x.credit, .slice A26 x.gs.length c26]), (25, .agg #[vI x.cpus, vQ x.credit, .slice x.gA x.gs.length x.gc]), (37, .slice As z.length cs), (34, vP g1 5), (33, .slice none 0 0), (30, vP g1 4), (27, vP g1 3), (24, vP g1 0), (11, .bool false), (10, vI x.rs.length), (9, .slice x.sA x.rs.length x.sc), (8, vP g1 6), (7, vI i), (5, vI i), (4, .slice As z.length cs), (3, .slice none 0 0), (2, vP g2 0), (1, vP g1 0)] ∧ Mem w wS (.row (.slice A29 x.cl.length c29) x.cl.length (x.cl.map I64i) 3 1 :: .row (.slice A26 x.gs.length c26) x.gs.length (x.gs.flatMap grL) 40 2 :: .row (.slice As z.length cs) z.length (z.map Rw.val) 44 1 :: .blk g2 #[vI 0, vQ 0, .slice none 0 0, .slice none 0 0, .slice none 0 0, .slice none 0 0, .slice none 0 0] 30 :: .blk g1 x.cells 30 :: rwF 43 z) ∧ (x.gs.length ≤ c26) ∧ (x.cl.length ≤ c29)) ?_ fun M8_3 => ?_
 ·
  clear HF HM HS; rintro a wM ⟨A26, c26, A29, c29, HF, HM, hc26, hc29⟩
  have HS := HM.picksT (fs' := (.row (.slice As z.length cs) z.length (z.map Rw.val) 44 1 :: .blk g2 #[vI 0, vQ 0, .slice none 0 0, .slice none 0 0, .slice none 0 0, .slice none 0 0, .slice none 0 0] 30 :: rwF 43 z)) 5 [2, 3] (by decide) (by decide) rfl
  refine qm [8, 11] (by kernel_rfl) rfl ?_
  refine all_cons ?_ ?_
  ·refine qk HF (i := 8) rfl rfl ?_
   refine e_cl HF [.slice x.uA x.cu.length x.uc] rfl rfl (z8 x.uA x.uc x.cu _ (HM.old hx.u) hf.u) ?_
   rintro _ w32 ⟨⟨A32, c32, rfl, ho, hc32⟩, hbw⟩
   refine ⟨_, rfl, ?_⟩
   replace HM := HM.callRow hbw ho
   clear HF; intro a HF
   refine keepS (HM.picksT 6 [3, 4] (by decide) (by decide) rfl) (fun HS => ?_)
   refine qm [11] (by kernel_rfl) rfl ?_
   refine all_cons ?_ all_nil
   refine qk HF (i := 11) rfl rfl ?_
   refine Yl.wp (S := fun wS => Mem w wS _) (v := .slice x.tA x.ts.length x.tc) (Yl.qf rfl rfl (by kernel_rfl) (fun _ h => h.cell (i := 5) rfl (rfl))) HF HM rfl (by decide) fun a HF => ?_
   refine keepS HS (fun HS => ?_)
   refine ap HF (fun _ => HS) [14] #[true, true, true, true, true, true, true, true, true, true, true, true, false, true, true, false, false, false, false, false, false, false, false, false] [(38, vP g1 0)] fun a HF => ?_
   refine qm [12] (by kernel_rfl) rfl ?_
   refine all_cons ?_ all_nil
   refine qk HF (i := 12) rfl rfl ?_
   replace HM := HM.nil 46 8
   refine qw HF HM (i := 0) rfl ei_tk rfl rfl rfl (news := (x.ts.flatMap tkL)) (HM.old hx.t) (qpt _) (by omega) (by omega) rfl (by decide) ?_
   clear HF HM; intro a w36 A36 c36 HF HM hc36
   refine keepS (HM.picksT 7 [4, 5] (by decide) (by decide) rfl) (fun HS => ?_)
   exact M8_0 _ _ ⟨A26, c26, A29, c29, A32, c32, A36, c36, HF.sub (by kernel_rfl), HM.picksT 7 [0, 1, 2, 3, 4, 5, 6] (by decide) (by decide) rfl, hc26, hc29, hc32, hc36⟩
  refine all_cons ?_ all_nil
  refine qk HF (i := 11) rfl rfl ?_
  refine Yl.wp (S := fun wS => Mem w wS _) (v := .slice x.tA x.ts.length x.tc) (Yl.qf rfl rfl (by kernel_rfl) (fun _ h => h.cell (i := 4) rfl (rfl))) HF HM rfl (by decide) fun a HF => ?_
  refine keepS HS (fun HS => ?_)
  exact M8_2 _ _ ⟨A26, c26, A29, c29, HF.sub (by kernel_rfl), HM.picksT 5 [0, 1, 2, 3, 4] (by decide) (by decide) rfl, hc26, hc29⟩
 refine q8 (f := 13) (l := #[true, true, true, true, true, true, true, false, false, true, true, true, false, true, false, false, false, false, false, false, false, false, false, false]) (fun aS wS => ∃ (A26 : Option Addr) (c26 : Nat) (A29 : Option Addr) (c29 : Nat), Fr aS 44 [] [(35, .slice x.tA x.ts.length x.tc), (29, .slice A29 x.cl.length c29), (28, .slice x.lA x.cl.length x.lc), (26, .agg #[vI x.cpus, vQ x.credit, .slice A26 x.gs.length c26]), (25, .agg #[vI x.cpus, vQ x.credit, .slice x.gA x.gs.length x.gc]), (37, .slice As z.length cs), (34, vP g1 5), (33, .slice none 0 0), (30, vP g1 4), (27, vP g1 3), (24, vP g1 0), (11, .bool false), (10, vI x.rs.length), (9, .slice x.sA x.rs.length x.sc), (8, vP g1 6), (7, vI i), (5, vI i), (4, .slice As z.length cs), (3, .slice none 0 0), (2, vP g2 0), (1, vP g1 0)] ∧ Mem w wS (.row (.slice A29 x.cl.length c29) x.cl.length (x.cl.map I64i) 3 1 :: .row (.slice A26 x.gs.length c26) x.gs.length (x.gs.flatMap grL) 40 2 :: .row (.slice As z.length cs) z.length (z.map Rw.val) 44 1 :: .blk g2 #[vI 0, vQ 0, .slice none 0 0, .slice none 0 0, .slice none 0 0, .slice none 0 0, .slice none 0 0] 30 :: .blk g1 x.cells 30 :: rwF 43 z) ∧ (x.gs.length ≤ c26) ∧ (x.cl.length ≤ c29)) ?_ fun M8_4 => ?_
 ·
  clear HF HM HS; rintro a wM ⟨A26, c26, A29, c29, HF, HM, hc26, hc29⟩
  have HS := HM.picksT (fs' := (.row (.slice As z.length cs) z.length (z.map Rw.val) 44 1 :: .blk g2 #[vI 0, vQ 0, .slice none 0 0, .slice none 0 0, .slice none 0 0, .slice none 0 0, .slice none 0 0] 30 :: rwF 43 z)) 5 [2, 3] (by decide) (by decide) rfl
  refine qm [7] (by kernel_rfl) rfl ?_
  refine all_cons ?_ all_nil
  refine qk HF (i := 7) rfl rfl ?_
  refine Yl.wp (S := fun wS => Mem w wS _) (v := .slice x.uA x.cu.length x.uc) (Yl.qf rfl rfl (by kernel_rfl) (fun _ h => h.cell (i := 4) rfl (rfl))) HF HM rfl (by decide) fun a HF => ?_
  refine keepS HS (fun HS => ?_)
  exact M8_2 _ _ ⟨A26, c26, A29, c29, HF.sub (by kernel_rfl), HM.picksT 5 [0, 1, 2, 3, 4] (by decide) (by decide) rfl, hc26, hc29⟩
 refine q8 (f := 13) (l := #[true, true, true, true, true, false, true, true, false, true, true, true, false, true, false, false, false, false, false, false, false, false, false, false]) (fun aS wS => ∃ (A26 : Option Addr) (c26 : Nat), Fr aS 44 [] [(35, .slice x.tA x.ts.length x.tc), (31, .slice x.uA x.cu.length x.uc), (28, .slice x.lA x.cl.length x.lc), (26, .agg #[vI x.cpus, vQ x.credit, .slice A26 x.gs.length c26]), (25, .agg #[vI x.cpus, vQ x.credit, .slice x.gA x.gs.length x.gc]), (37, .slice As z.length cs), (34, vP g1 5), (33, .slice none 0 0), (30, vP g1 4), (27, vP g1 3), (24, vP g1 0), (11, .bool false), (10, vI x.rs.length), (9, .slice x.sA x.rs.length x.sc), (8, vP g1 6), (7, vI i), (5, vI i), (4, .slice As z.length cs), (3, .slice none 0 0), (2, vP g2 0), (1, vP g1 0)] ∧ Mem w wS (.row (.slice A26 x.gs.length c26) x.gs.length (x.gs.flatMap grL) 40 2 :: .row (.slice As z.length cs) z.length (z.map Rw.val) 44 1 :: .blk g2 #[vI 0, vQ 0, .slice none 0 0, .slice none 0 0, .slice none 0 0, .slice none 0 0, .slice none 0 0] 30 :: .blk g1 x.cells 30 :: rwF 43 z) ∧ (x.gs.length ≤ c26)) ?_ fun M8_5 => ?_
 ·
  clear HF HM HS; rintro a wM ⟨A26, c26, HF, HM, hc26⟩
  have HS := HM.picksT (fs' := (.row (.slice As z.length cs) z.length (z.map Rw.val) 44 1 :: .blk g2 #[vI 0, vQ 0, .slice none 0 0, .slice none 0 0, .slice none 0 0, .slice none 0 0, .slice none 0 0] 30 :: rwF 43 z)) 4 [1, 2] (by decide) (by decide) rfl
  refine ap HF (fun _ => HS) [14] #[true, true, true, true, true, false, true, true, false, true, true, true, false, true, true, false, false, false, false, false, false, false, false, false] [(38, vP g1 0)] fun a HF => ?_
  refine qm [5] (by kernel_rfl) rfl ?_
  refine all_cons ?_ all_nil
  refine qk HF (i := 5) rfl rfl ?_
  refine e_cl HF [.slice x.lA x.cl.length x.lc] rfl rfl (z8 x.lA x.lc x.cl _ (HM.old hx.l) hf.l) ?_
  rintro _ w29 ⟨⟨A29, c29, rfl, ho, hc29⟩, hbw⟩
  refine ⟨_, rfl, ?_⟩
  replace HM := HM.callRow hbw ho
  clear HF; intro a HF
  refine keepS (HM.picksT 5 [2, 3] (by decide) (by decide) rfl) (fun HS => ?_)
  refine qm [8] (by kernel_rfl) rfl ?_
  refine all_cons ?_ all_nil
  refine qk HF (i := 8) rfl rfl ?_
  refine e_cl HF [.slice x.uA x.cu.length x.uc] rfl rfl (z8 x.uA x.uc x.cu _ (HM.old hx.u) hf.u) ?_
  rintro _ w32 ⟨⟨A32, c32, rfl, ho, hc32⟩, hbw⟩
  refine ⟨_, rfl, ?_⟩
  replace HM := HM.callRow hbw ho
  clear HF; intro a HF
  refine keepS (HM.picksT 6 [3, 4] (by decide) (by decide) rfl) (fun HS => ?_)
  exact M8_1 _ _ ⟨A26, c26, A29, c29, A32, c32, HF.sub (by kernel_rfl), HM.picksT 6 [0, 1, 2, 3, 4, 5] (by decide) (by decide) rfl, hc26, hc29, hc32⟩
 refine q8 (f := 14) (l := #[true, true, true, true, true, false, true, true, false, true, true, false, false, true, false, false, false, false, false, false, false, false, false, false]) (fun aS wS => ∃ (A26 : Option Addr) (c26 : Nat), Fr aS 44 [] [(31, .slice x.uA x.cu.length x.uc), (28, .slice x.lA x.cl.length x.lc), (26, .agg #[vI x.cpus, vQ x.credit, .slice A26 x.gs.length c26]), (25, .agg #[vI x.cpus, vQ x.credit, .slice x.gA x.gs.length x.gc]), (37, .slice As z.length cs), (34, vP g1 5), (33, .slice none 0 0), (30, vP g1 4), (27, vP g1 3), (24, vP g1 0), (11, .bool false), (10, vI x.rs.length), (9, .slice x.sA x.rs.length x.sc), (8, vP g1 6), (7, vI i), (5, vI i), (4, .slice As z.length cs), (3, .slice none 0 0), (2, vP g2 0), (1, vP g1 0)] ∧ Mem w wS (.row (.slice A26 x.gs.length c26) x.gs.length (x.gs.flatMap grL) 40 2 :: .row (.slice As z.length cs) z.length (z.map Rw.val) 44 1 :: .blk g2 #[vI 0, vQ 0, .slice none 0 0, .slice none 0 0, .slice none 0 0, .slice none 0 0, .slice none 0 0] 30 :: .blk g1 x.cells 30 :: rwF 43 z) ∧ (x.gs.length ≤ c26)) ?_ fun M8_6 => ?_
 ·
  clear HF HM HS; rintro a wM ⟨A26, c26, HF, HM, hc26⟩
  have HS := HM.picksT (fs' := (.row (.slice As z.length cs) z.length (z.map Rw.val) 44 1 :: .blk g2 #[vI 0, vQ 0, .slice none 0 0, .slice none 0 0, .slice none 0 0, .slice none 0 0, .slice none 0 0] 30 :: rwF 43 z)) 4 [1, 2] (by decide) (by decide) rfl
  refine qm [5, 11] (by kernel_rfl) rfl ?_
  refine all_cons ?_ ?_
  ·refine qk HF (i := 5) rfl rfl ?_
   refine e_cl HF [.slice x.lA x.cl.length x.lc] rfl rfl (z8 x.lA x.lc x.cl _ (HM.old hx.l) hf.l) ?_
   rintro _ w29 ⟨⟨A29, c29, rfl, ho, hc29⟩, hbw⟩
   refine ⟨_, rfl, ?_⟩
   replace HM := HM.callRow hbw ho
   clear HF; intro a HF
   refine keepS (HM.picksT 5 [2, 3] (by decide) (by decide) rfl) (fun HS => ?_)
   exact M8_3 _ _ ⟨A26, c26, A29, c29, HF.sub (by kernel_rfl), HM.picksT 5 [0, 1, 2, 3, 4] (by decide) (by decide) rfl, hc26, hc29⟩
  refine all_cons ?_ all_nil
  refine qk HF (i := 11) rfl rfl ?_
  refine Yl.wp (S := fun wS => Mem w wS _) (v := .slice x.tA x.ts.length x.tc) (Yl.qf rfl rfl (by kernel_rfl) (fun _ h => h.cell (i := 3) rfl (rfl))) HF HM rfl (by decide) fun a HF => ?_
  refine keepS HS (fun HS => ?_)
  exact M8_5 _ _ ⟨A26, c26, HF.sub (by kernel_rfl), HM.picksT 4 [0, 1, 2, 3] (by decide) (by decide) rfl, hc26⟩
 refine q8 (f := 14) (l := #[true, true, true, true, true, false, true, false, false, true, true, true, false, true, false, false, false, false, false, false, false, false, false, false]) (fun aS wS => ∃ (A26 : Option Addr) (c26 : Nat), Fr aS 44 [] [(35, .slice x.tA x.ts.length x.tc), (28, .slice x.lA x.cl.length x.lc), (26, .agg #[vI x.cpus, vQ x.credit, .slice A26 x.gs.length c26]), (25, .agg #[vI x.cpus, vQ x.credit, .slice x.gA x.gs.length x.gc]), (37, .slice As z.length cs), (34, vP g1 5), (33, .slice none 0 0), (30, vP g1 4), (27, vP g1 3), (24, vP g1 0), (11, .bool false), (10, vI x.rs.length), (9, .slice x.sA x.rs.length x.sc), (8, vP g1 6), (7, vI i), (5, vI i), (4, .slice As z.length cs), (3, .slice none 0 0), (2, vP g2 0), (1, vP g1 0)] ∧ Mem w wS (.row (.slice A26 x.gs.length c26) x.gs.length (x.gs.flatMap grL) 40 2 :: .row (.slice As z.length cs) z.length (z.map Rw.val) 44 1 :: .blk g2 #[vI 0, vQ 0, .slice none 0 0, .slice none 0 0, .slice none 0 0, .slice none 0 0, .slice none 0 0] 30 :: .blk g1 x.cells 30 :: rwF 43 z) ∧ (x.gs.length ≤ c26)) ?_ fun M8_7 => ?_
 ·
  clear HF HM HS; rintro a wM ⟨A26, c26, HF, HM, hc26⟩
  have HS := HM.picksT (fs' := (.row (.slice As z.length cs) z.length (z.map Rw.val) 44 1 :: .blk g2 #[vI 0, vQ 0, .slice none 0 0, .slice none 0 0, .slice none 0 0, .slice none 0 0, .slice none 0 0] 30 :: rwF 43 z)) 4 [1, 2] (by decide) (by decide) rfl
  refine qm [5, 7] (by kernel_rfl) rfl ?_
  refine all_cons ?_ ?_
  ·refine qk HF (i := 5) rfl rfl ?_
   refine e_cl HF [.slice x.lA x.cl.length x.lc] rfl rfl (z8 x.lA x.lc x.cl _ (HM.old hx.l) hf.l) ?_
   rintro _ w29 ⟨⟨A29, c29, rfl, ho, hc29⟩, hbw⟩
   refine ⟨_, rfl, ?_⟩
   replace HM := HM.callRow hbw ho
   clear HF; intro a HF
   refine keepS (HM.picksT 5 [2, 3] (by decide) (by decide) rfl) (fun HS => ?_)
   exact M8_4 _ _ ⟨A26, c26, A29, c29, HF.sub (by kernel_rfl), HM.picksT 5 [0, 1, 2, 3, 4] (by decide) (by decide) rfl, hc26, hc29⟩
  refine all_cons ?_ all_nil
  refine qk HF (i := 7) rfl rfl ?_
  refine Yl.wp (S := fun wS => Mem w wS _) (v := .slice x.uA x.cu.length x.uc) (Yl.qf rfl rfl (by kernel_rfl) (fun _ h => h.cell (i := 3) rfl (rfl))) HF HM rfl (by decide) fun a HF => ?_
  refine keepS HS (fun HS => ?_)
  exact M8_5 _ _ ⟨A26, c26, HF.sub (by kernel_rfl), HM.picksT 4 [0, 1, 2, 3] (by decide) (by decide) rfl, hc26⟩
 refine q8 (f := 14) (l := #[true, true, true, true, false, false, true, true, false, true, true, true, false, true, false, false, false, false, false, false, false, false, false, false]) (fun aS wS => ∃ (A26 : Option Addr) (c26 : Nat), Fr aS 44 [] [(35, .slice x.tA x.ts.length x.tc), (31, .slice x.uA x.cu.length x.uc), (26, .agg #[vI x.cpus, vQ x.credit, .slice A26 x.gs.length c26]), (25, .agg #[vI x.cpus, vQ x.credit, .slice x.gA x.gs.length x.gc]), (37, .slice As z.length cs), (34, vP g1 5), (33, .slice none 0 0), (30, vP g1 4), (27, vP g1 3), (24, vP g1 0), (11, .bool false), (10, vI x.rs.length), (9, .slice x.sA x.rs.length x.sc), (8, vP g1 6), (7, vI i), (5, vI i), (4, .slice As z.length cs), (3, .slice none 0 0), (2, vP g2 0), (1, vP g1 0)] ∧ Mem w wS (.row (.slice A26 x.gs.length c26) x.gs.length (x.gs.flatMap grL) 40 2 :: .row (.slice As z.length cs) z.length (z.map Rw.val) 44 1 :: .blk g2 #[vI 0, vQ 0, .slice none 0 0, .slice none 0 0, .slice none 0 0, .slice none 0 0, .slice none 0 0] 30 :: .blk g1 x.cells 30 :: rwF 43 z) ∧ (x.gs.length ≤ c26)) ?_ fun M8_8 => ?_
 ·
  clear HF HM HS; rintro a wM ⟨A26, c26, HF, HM, hc26⟩
  have HS := HM.picksT (fs' := (.row (.slice As z.length cs) z.length (z.map Rw.val) 44 1 :: .blk g2 #[vI 0, vQ 0, .slice none 0 0, .slice none 0 0, .slice none 0 0, .slice none 0 0, .slice none 0 0] 30 :: rwF 43 z)) 4 [1, 2] (by decide) (by decide) rfl
  refine qm [4] (by kernel_rfl) rfl ?_
  refine all_cons ?_ all_nil
  refine qk HF (i := 4) rfl rfl ?_
  refine Yl.wp (S := fun wS => Mem w wS _) (v := .slice x.lA x.cl.length x.lc) (Yl.qf rfl rfl (by kernel_rfl) (fun _ h => h.cell (i := 3) rfl (rfl))) HF HM rfl (by decide) fun a HF => ?_
  refine keepS HS (fun HS => ?_)
  exact M8_5 _ _ ⟨A26, c26, HF.sub (by kernel_rfl), HM.picksT 4 [0, 1, 2, 3] (by decide) (by decide) rfl, hc26⟩
 refine q8 (f := 14) (l := #[true, true, false, true, true, false, true, true, false, true, true, true, false, true, false, false, false, false, false, false, false, false, false, false]) (fun aS wS => Fr aS 44 [] [(35, .slice x.tA x.ts.length x.tc), (31, .slice x.uA x.cu.length x.uc), (28, .slice x.lA x.cl.length x.lc), (25, .agg #[vI x.cpus, vQ x.credit, .slice x.gA x.gs.length x.gc]), (37, .slice As z.length cs), (34, vP g1 5), (33, .slice none 0 0), (30, vP g1 4), (27, vP g1 3), (24, vP g1 0), (11, .bool false), (10, vI x.rs.length), (9, .slice x.sA x.rs.length x.sc), (8, vP g1 6), (7, vI i), (5, vI i), (4, .slice As z.length cs), (3, .slice none 0 0), (2, vP g2 0), (1, vP g1 0)] ∧ Mem w wS (.row (.slice As z.length cs) z.length (z.map Rw.val) 44 1 :: .blk g2 #[vI 0, vQ 0, .slice none 0 0, .slice none 0 0, .slice none 0 0, .slice none 0 0, .slice none 0 0] 30 :: .blk g1 x.cells 30 :: rwF 43 z)) ?_ fun M8_9 => ?_
 ·
  clear HF HM HS; rintro a wM ⟨HF, HM⟩
  have HS := HM.picksT (fs' := (.row (.slice As z.length cs) z.length (z.map Rw.val) 44 1 :: .blk g2 #[vI 0, vQ 0, .slice none 0 0, .slice none 0 0, .slice none 0 0, .slice none 0 0, .slice none 0 0] 30 :: rwF 43 z)) 3 [0, 1] (by decide) (by decide) rfl
  refine qm [2] (by kernel_rfl) rfl ?_
  refine all_cons ?_ all_nil
  refine qk HF (i := 2) rfl rfl ?_
  refine e_cl HF [.agg #[vI x.cpus, vQ x.credit, .slice x.gA x.gs.length x.gc]] rfl rfl (zo x _ (hx.old HM) hf.g) ?_
  rintro _ w26 ⟨⟨A26, c26, rfl, ho, hc26⟩, hbw⟩
  refine ⟨_, rfl, ?_⟩
  replace HM := HM.callRow hbw ho
  clear HF; intro a HF
  refine keepS (HM.picksT 4 [1, 2] (by decide) (by decide) rfl) (fun HS => ?_)
  exact M8_5 _ _ ⟨A26, c26, HF.sub (by kernel_rfl), HM.picksT 4 [0, 1, 2, 3] (by decide) (by decide) rfl, hc26⟩
 refine q8 (f := 15) (l := #[true, true, true, true, true, false, true, false, false, true, true, false, false, true, false, false, false, false, false, false, false, false, false, false]) (fun aS wS => ∃ (A26 : Option Addr) (c26 : Nat), Fr aS 44 [] [(28, .slice x.lA x.cl.length x.lc), (26, .agg #[vI x.cpus, vQ x.credit, .slice A26 x.gs.length c26]), (25, .agg #[vI x.cpus, vQ x.credit, .slice x.gA x.gs.length x.gc]), (37, .slice As z.length cs), (34, vP g1 5), (33, .slice none 0 0), (30, vP g1 4), (27, vP g1 3), (24, vP g1 0), (11, .bool false), (10, vI x.rs.length), (9, .slice x.sA x.rs.length x.sc), (8, vP g1 6), (7, vI i), (5, vI i), (4, .slice As z.length cs), (3, .slice none 0 0), (2, vP g2 0), (1, vP g1 0)] ∧ Mem w wS (.row (.slice A26 x.gs.length c26) x.gs.length (x.gs.flatMap grL) 40 2 :: .row (.slice As z.length cs) z.length (z.map Rw.val) 44 1 :: .blk g2 #[vI 0, vQ 0, .slice none 0 0, .slice none 0 0, .slice none 0 0, .slice none 0 0, .slice none 0 0] 30 :: .blk g1 x.cells 30 :: rwF 43 z) ∧ (x.gs.length ≤ c26)) ?_ fun M8_10 => ?_
 ·
  clear HF HM HS; rintro a wM ⟨A26, c26, HF, HM, hc26⟩
  have HS := HM.picksT (fs' := (.row (.slice As z.length cs) z.length (z.map Rw.val) 44 1 :: .blk g2 #[vI 0, vQ 0, .slice none 0 0, .slice none 0 0, .slice none 0 0, .slice none 0 0, .slice none 0 0] 30 :: rwF 43 z)) 4 [1, 2] (by decide) (by decide) rfl
  refine qm [5, 7, 11] (by kernel_rfl) rfl ?_
  refine all_cons ?_ ?_
  ·refine qk HF (i := 5) rfl rfl ?_
   refine e_cl HF [.slice x.lA x.cl.length x.lc] rfl rfl (z8 x.lA x.lc x.cl _ (HM.old hx.l) hf.l) ?_
   rintro _ w29 ⟨⟨A29, c29, rfl, ho, hc29⟩, hbw⟩
   refine ⟨_, rfl, ?_⟩
   replace HM := HM.callRow hbw ho
   clear HF; intro a HF
   refine keepS (HM.picksT 5 [2, 3] (by decide) (by decide) rfl) (fun HS => ?_)
   refine qm [7, 11] (by kernel_rfl) rfl ?_
   refine all_cons ?_ ?_
   ·refine qk HF (i := 7) rfl rfl ?_
    refine Yl.wp (S := fun wS => Mem w wS _) (v := .slice x.uA x.cu.length x.uc) (Yl.qf rfl rfl (by kernel_rfl) (fun _ h => h.cell (i := 4) rfl (rfl))) HF HM rfl (by decide) fun a HF => ?_
    refine keepS HS (fun HS => ?_)
    exact M8_3 _ _ ⟨A26, c26, A29, c29, HF.sub (by kernel_rfl), HM.picksT 5 [0, 1, 2, 3, 4] (by decide) (by decide) rfl, hc26, hc29⟩
   refine all_cons ?_ all_nil
   refine qk HF (i := 11) rfl rfl ?_
   refine Yl.wp (S := fun wS => Mem w wS _) (v := .slice x.tA x.ts.length x.tc) (Yl.qf rfl rfl (by kernel_rfl) (fun _ h => h.cell (i := 4) rfl (rfl))) HF HM rfl (by decide) fun a HF => ?_
   refine keepS HS (fun HS => ?_)
   exact M8_4 _ _ ⟨A26, c26, A29, c29, HF.sub (by kernel_rfl), HM.picksT 5 [0, 1, 2, 3, 4] (by decide) (by decide) rfl, hc26, hc29⟩
  refine all_cons ?_ ?_
  ·refine qk HF (i := 7) rfl rfl ?_
   refine Yl.wp (S := fun wS => Mem w wS _) (v := .slice x.uA x.cu.length x.uc) (Yl.qf rfl rfl (by kernel_rfl) (fun _ h => h.cell (i := 3) rfl (rfl))) HF HM rfl (by decide) fun a HF => ?_
   refine keepS HS (fun HS => ?_)
   exact M8_6 _ _ ⟨A26, c26, HF.sub (by kernel_rfl), HM.picksT 4 [0, 1, 2, 3] (by decide) (by decide) rfl, hc26⟩
  refine all_cons ?_ all_nil
  refine qk HF (i := 11) rfl rfl ?_
  refine Yl.wp (S := fun wS => Mem w wS _) (v := .slice x.tA x.ts.length x.tc) (Yl.qf rfl rfl (by kernel_rfl) (fun _ h => h.cell (i := 3) rfl (rfl))) HF HM rfl (by decide) fun a HF => ?_
  refine keepS HS (fun HS => ?_)
  exact M8_7 _ _ ⟨A26, c26, HF.sub (by kernel_rfl), HM.picksT 4 [0, 1, 2, 3] (by decide) (by decide) rfl, hc26⟩
 refine q8 (f := 15) (l := #[true, true, true, true, false, false, true, true, false, true, true, false, false, true, false, false, false, false, false, false, false, false, false, false]) (fun aS wS => ∃ (A26 : Option Addr) (c26 : Nat), Fr aS 44 [] [(31, .slice x.uA x.cu.length x.uc), (26, .agg #[vI x.cpus, vQ x.credit, .slice A26 x.gs.length c26]), (25, .agg #[vI x.cpus, vQ x.credit, .slice x.gA x.gs.length x.gc]), (37, .slice As z.length cs), (34, vP g1 5), (33, .slice none 0 0), (30, vP g1 4), (27, vP g1 3), (24, vP g1 0), (11, .bool false), (10, vI x.rs.length), (9, .slice x.sA x.rs.length x.sc), (8, vP g1 6), (7, vI i), (5, vI i), (4, .slice As z.length cs), (3, .slice none 0 0), (2, vP g2 0), (1, vP g1 0)] ∧ Mem w wS (.row (.slice A26 x.gs.length c26) x.gs.length (x.gs.flatMap grL) 40 2 :: .row (.slice As z.length cs) z.length (z.map Rw.val) 44 1 :: .blk g2 #[vI 0, vQ 0, .slice none 0 0, .slice none 0 0, .slice none 0 0, .slice none 0 0, .slice none 0 0] 30 :: .blk g1 x.cells 30 :: rwF 43 z) ∧ (x.gs.length ≤ c26)) ?_ fun M8_11 => ?_
 ·
  clear HF HM HS; rintro a wM ⟨A26, c26, HF, HM, hc26⟩
  have HS := HM.picksT (fs' := (.row (.slice As z.length cs) z.length (z.map Rw.val) 44 1 :: .blk g2 #[vI 0, vQ 0, .slice none 0 0, .slice none 0 0, .slice none 0 0, .slice none 0 0, .slice none 0 0] 30 :: rwF 43 z)) 4 [1, 2] (by decide) (by decide) rfl
  refine qm [4, 11] (by kernel_rfl) rfl ?_
  refine all_cons ?_ ?_
  ·refine qk HF (i := 4) rfl rfl ?_
   refine Yl.wp (S := fun wS => Mem w wS _) (v := .slice x.lA x.cl.length x.lc) (Yl.qf rfl rfl (by kernel_rfl) (fun _ h => h.cell (i := 3) rfl (rfl))) HF HM rfl (by decide) fun a HF => ?_
   refine keepS HS (fun HS => ?_)
   exact M8_6 _ _ ⟨A26, c26, HF.sub (by kernel_rfl), HM.picksT 4 [0, 1, 2, 3] (by decide) (by decide) rfl, hc26⟩
  refine all_cons ?_ all_nil
  refine qk HF (i := 11) rfl rfl ?_
  refine Yl.wp (S := fun wS => Mem w wS _) (v := .slice x.tA x.ts.length x.tc) (Yl.qf rfl rfl (by kernel_rfl) (fun _ h => h.cell (i := 3) rfl (rfl))) HF HM rfl (by decide) fun a HF => ?_
  refine keepS HS (fun HS => ?_)
  exact M8_8 _ _ ⟨A26, c26, HF.sub (by kernel_rfl), HM.picksT 4 [0, 1, 2, 3] (by decide) (by decide) rfl, hc26⟩
 refine q8 (f := 15) (l := #[true, true, true, true, false, false, true, false, false, true, true, true, false, true, false, false, false, false, false, false, false, false, false, false]) (fun aS wS => ∃ (A26 : Option Addr) (c26 : Nat), Fr aS 44 [] [(35, .slice x.tA x.ts.length x.tc), (26, .agg #[vI x.cpus, vQ x.credit, .slice A26 x.gs.length c26]), (25, .agg #[vI x.cpus, vQ x.credit, .slice x.gA x.gs.length x.gc]), (37, .slice As z.length cs), (34, vP g1 5), (33, .slice none 0 0), (30, vP g1 4), (27, vP g1 3), (24, vP g1 0), (11, .bool false), (10, vI x.rs.length), (9, .slice x.sA x.rs.length x.sc), (8, vP g1 6), (7, vI i), (5, vI i), (4, .slice As z.length cs), (3, .slice none 0 0), (2, vP g2 0), (1, vP g1 0)] ∧ Mem w wS (.row (.slice A26 x.gs.length c26) x.gs.length (x.gs.flatMap grL) 40 2 :: .row (.slice As z.length cs) z.length (z.map Rw.val) 44 1 :: .blk g2 #[vI 0, vQ 0, .slice none 0 0, .slice none 0 0, .slice none 0 0, .slice none 0 0, .slice none 0 0] 30 :: .blk g1 x.cells 30 :: rwF 43 z) ∧ (x.gs.length ≤ c26)) ?_ fun M8_12 => ?_
 ·
  clear HF HM HS; rintro a wM ⟨A26, c26, HF, HM, hc26⟩
  have HS := HM.picksT (fs' := (.row (.slice As z.length cs) z.length (z.map Rw.val) 44 1 :: .blk g2 #[vI 0, vQ 0, .slice none 0 0, .slice none 0 0, .slice none 0 0, .slice none 0 0, .slice none 0 0] 30 :: rwF 43 z)) 4 [1, 2] (by decide) (by decide) rfl
  refine qm [4, 7] (by kernel_rfl) rfl ?_
  refine all_cons ?_ ?_
  ·refine qk HF (i := 4) rfl rfl ?_
   refine Yl.wp (S := fun wS => Mem w wS _) (v := .slice x.lA x.cl.length x.lc) (Yl.qf rfl rfl (by kernel_rfl) (fun _ h => h.cell (i := 3) rfl (rfl))) HF HM rfl (by decide) fun a HF => ?_
   refine keepS HS (fun HS => ?_)
   exact M8_7 _ _ ⟨A26, c26, HF.sub (by kernel_rfl), HM.picksT 4 [0, 1, 2, 3] (by decide) (by decide) rfl, hc26⟩
  refine all_cons ?_ all_nil
  refine qk HF (i := 7) rfl rfl ?_
  refine Yl.wp (S := fun wS => Mem w wS _) (v := .slice x.uA x.cu.length x.uc) (Yl.qf rfl rfl (by kernel_rfl) (fun _ h => h.cell (i := 3) rfl (rfl))) HF HM rfl (by decide) fun a HF => ?_
  refine keepS HS (fun HS => ?_)
  exact M8_8 _ _ ⟨A26, c26, HF.sub (by kernel_rfl), HM.picksT 4 [0, 1, 2, 3] (by decide) (by decide) rfl, hc26⟩
 refine q8 (f := 15) (l := #[true, true, false, true, true, false, true, true, false, true, true, false, false, true, false, false, false, false, false, false, false, false, false, false]) (fun aS wS => Fr aS 44 [] [(31, .slice x.uA x.cu.length x.uc), (28, .slice x.lA x.cl.length x.lc), (25, .agg #[vI x.cpus, vQ x.credit, .slice x.gA x.gs.length x.gc]), (37, .slice As z.length cs), (34, vP g1 5), (33, .slice none 0 0), (30, vP g1 4), (27, vP g1 3), (24, vP g1 0), (11, .bool false), (10, vI x.rs.length), (9, .slice x.sA x.rs.length x.sc), (8, vP g1 6), (7, vI i), (5, vI i), (4, .slice As z.length cs), (3, .slice none 0 0), (2, vP g2 0), (1, vP g1 0)] ∧ Mem w wS (.row (.slice As z.length cs) z.length (z.map Rw.val) 44 1 :: .blk g2 #[vI 0, vQ 0, .slice none 0 0, .slice none 0 0, .slice none 0 0, .slice none 0 0, .slice none 0 0] 30 :: .blk g1 x.cells 30 :: rwF 43 z)) ?_ fun M8_13 => ?_
 ·
  clear HF HM HS; rintro a wM ⟨HF, HM⟩
  have HS := HM.picksT (fs' := (.row (.slice As z.length cs) z.length (z.map Rw.val) 44 1 :: .blk g2 #[vI 0, vQ 0, .slice none 0 0, .slice none 0 0, .slice none 0 0, .slice none 0 0, .slice none 0 0] 30 :: rwF 43 z)) 3 [0, 1] (by decide) (by decide) rfl
  refine qm [2, 11] (by kernel_rfl) rfl ?_
  refine all_cons ?_ ?_
  ·refine qk HF (i := 2) rfl rfl ?_
   refine e_cl HF [.agg #[vI x.cpus, vQ x.credit, .slice x.gA x.gs.length x.gc]] rfl rfl (zo x _ (hx.old HM) hf.g) ?_
   rintro _ w26 ⟨⟨A26, c26, rfl, ho, hc26⟩, hbw⟩
   refine ⟨_, rfl, ?_⟩
   replace HM := HM.callRow hbw ho
   clear HF; intro a HF
   refine keepS (HM.picksT 4 [1, 2] (by decide) (by decide) rfl) (fun HS => ?_)
   exact M8_6 _ _ ⟨A26, c26, HF.sub (by kernel_rfl), HM.picksT 4 [0, 1, 2, 3] (by decide) (by decide) rfl, hc26⟩
  refine all_cons ?_ all_nil
  refine qk HF (i := 11) rfl rfl ?_
  refine Yl.wp (S := fun wS => Mem w wS _) (v := .slice x.tA x.ts.length x.tc) (Yl.qf rfl rfl (by kernel_rfl) (fun _ h => h.cell (i := 2) rfl (rfl))) HF HM rfl (by decide) fun a HF => ?_
  refine keepS HS (fun HS => ?_)
  exact M8_9 _ _ ⟨HF.sub (by kernel_rfl), HM.picksT 3 [0, 1, 2] (by decide) (by decide) rfl⟩
 refine q8 (f := 15) (l := #[true, true, false, true, true, false, true, false, false, true, true, true, false, true, false, false, false, false, false, false, false, false, false, false]) (fun aS wS => Fr aS 44 [] [(35, .slice x.tA x.ts.length x.tc), (28, .slice x.lA x.cl.length x.lc), (25, .agg #[vI x.cpus, vQ x.credit, .slice x.gA x.gs.length x.gc]), (37, .slice As z.length cs), (34, vP g1 5), (33, .slice none 0 0), (30, vP g1 4), (27, vP g1 3), (24, vP g1 0), (11, .bool false), (10, vI x.rs.length), (9, .slice x.sA x.rs.length x.sc), (8, vP g1 6), (7, vI i), (5, vI i), (4, .slice As z.length cs), (3, .slice none 0 0), (2, vP g2 0), (1, vP g1 0)] ∧ Mem w wS (.row (.slice As z.length cs) z.length (z.map Rw.val) 44 1 :: .blk g2 #[vI 0, vQ 0, .slice none 0 0, .slice none 0 0, .slice none 0 0, .slice none 0 0, .slice none 0 0] 30 :: .blk g1 x.cells 30 :: rwF 43 z)) ?_ fun M8_14 => ?_
 ·
  clear HF HM HS; rintro a wM ⟨HF, HM⟩
  have HS := HM.picksT (fs' := (.row (.slice As z.length cs) z.length (z.map Rw.val) 44 1 :: .blk g2 #[vI 0, vQ 0, .slice none 0 0, .slice none 0 0, .slice none 0 0, .slice none 0 0, .slice none 0 0] 30 :: rwF 43 z)) 3 [0, 1] (by decide) (by decide) rfl
  refine qm [2, 7] (by kernel_rfl) rfl ?_
  refine all_cons ?_ ?_
  ·refine qk HF (i := 2) rfl rfl ?_
   refine e_cl HF [.agg #[vI x.cpus, vQ x.credit, .slice x.gA x.gs.length x.gc]] rfl rfl (zo x _ (hx.old HM) hf.g) ?_
   rintro _ w26 ⟨⟨A26, c26, rfl, ho, hc26⟩, hbw⟩
   refine ⟨_, rfl, ?_⟩
   replace HM := HM.callRow hbw ho
   clear HF; intro a HF
   refine keepS (HM.picksT 4 [1, 2] (by decide) (by decide) rfl) (fun HS => ?_)
   exact M8_7 _ _ ⟨A26, c26, HF.sub (by kernel_rfl), HM.picksT 4 [0, 1, 2, 3] (by decide) (by decide) rfl, hc26⟩
  refine all_cons ?_ all_nil
  refine qk HF (i := 7) rfl rfl ?_
  refine Yl.wp (S := fun wS => Mem w wS _) (v := .slice x.uA x.cu.length x.uc) (Yl.qf rfl rfl (by kernel_rfl) (fun _ h => h.cell (i := 2) rfl (rfl))) HF HM rfl (by decide) fun a HF => ?_
  refine keepS HS (fun HS => ?_)
  exact M8_9 _ _ ⟨HF.sub (by kernel_rfl), HM.picksT 3 [0, 1, 2] (by decide) (by decide) rfl⟩
 refine q8 (f := 15) (l := #[true, true, false, true, false, false, true, true, false, true, true, true, false, true, false, false, false, false, false, false, false, false, false, false]) (fun aS wS => Fr aS 44 [] [(35, .slice x.tA x.ts.length x.tc), (31, .slice x.uA x.cu.length x.uc), (25, .agg #[vI x.cpus, vQ x.credit, .slice x.gA x.gs.length x.gc]), (37, .slice As z.length cs), (34, vP g1 5), (33, .slice none 0 0), (30, vP g1 4), (27, vP g1 3), (24, vP g1 0), (11, .bool false), (10, vI x.rs.length), (9, .slice x.sA x.rs.length x.sc), (8, vP g1 6), (7, vI i), (5, vI i), (4, .slice As z.length cs), (3, .slice none 0 0), (2, vP g2 0), (1, vP g1 0)] ∧ Mem w wS (.row (.slice As z.length cs) z.length (z.map Rw.val) 44 1 :: .blk g2 #[vI 0, vQ 0, .slice none 0 0, .slice none 0 0, .slice none 0 0, .slice none 0 0, .slice none 0 0] 30 :: .blk g1 x.cells 30 :: rwF 43 z)) ?_ fun M8_15 => ?_
 ·
  clear HF HM HS; rintro a wM ⟨HF, HM⟩
  have HS := HM.picksT (fs' := (.row (.slice As z.length cs) z.length (z.map Rw.val) 44 1 :: .blk g2 #[vI 0, vQ 0, .slice none 0 0, .slice none 0 0, .slice none 0 0, .slice none 0 0, .slice none 0 0] 30 :: rwF 43 z)) 3 [0, 1] (by decide) (by decide) rfl
  refine qm [2, 4] (by kernel_rfl) rfl ?_
  refine all_cons ?_ ?_
  ·refine qk HF (i := 2) rfl rfl ?_
   refine e_cl HF [.agg #[vI x.cpus, vQ x.credit, .slice x.gA x.gs.length x.gc]] rfl rfl (zo x _ (hx.old HM) hf.g) ?_
   rintro _ w26 ⟨⟨A26, c26, rfl, ho, hc26⟩, hbw⟩
   refine ⟨_, rfl, ?_⟩
   replace HM := HM.callRow hbw ho
   clear HF; intro a HF
   refine keepS (HM.picksT 4 [1, 2] (by decide) (by decide) rfl) (fun HS => ?_)
   exact M8_8 _ _ ⟨A26, c26, HF.sub (by kernel_rfl), HM.picksT 4 [0, 1, 2, 3] (by decide) (by decide) rfl, hc26⟩
  refine all_cons ?_ all_nil
  refine qk HF (i := 4) rfl rfl ?_
  refine Yl.wp (S := fun wS => Mem w wS _) (v := .slice x.lA x.cl.length x.lc) (Yl.qf rfl rfl (by kernel_rfl) (fun _ h => h.cell (i := 2) rfl (rfl))) HF HM rfl (by decide) fun a HF => ?_
  refine keepS HS (fun HS => ?_)
  exact M8_9 _ _ ⟨HF.sub (by kernel_rfl), HM.picksT 3 [0, 1, 2] (by decide) (by decide) rfl⟩
 refine q8 (f := 15) (l := #[true, false, false, true, true, false, true, true, false, true, true, true, false, true, false, false, false, false, false, false, false, false, false, false]) (fun aS wS => Fr aS 44 [] [(35, .slice x.tA x.ts.length x.tc), (31, .slice x.uA x.cu.length x.uc), (28, .slice x.lA x.cl.length x.lc), (37, .slice As z.length cs), (34, vP g1 5), (33, .slice none 0 0), (30, vP g1 4), (27, vP g1 3), (24, vP g1 0), (11, .bool false), (10, vI x.rs.length), (9, .slice x.sA x.rs.length x.sc), (8, vP g1 6), (7, vI i), (5, vI i), (4, .slice As z.length cs), (3, .slice none 0 0), (2, vP g2 0), (1, vP g1 0)] ∧ Mem w wS (.row (.slice As z.length cs) z.length (z.map Rw.val) 44 1 :: .blk g2 #[vI 0, vQ 0, .slice none 0 0, .slice none 0 0, .slice none 0 0, .slice none 0 0, .slice none 0 0] 30 :: .blk g1 x.cells 30 :: rwF 43 z)) ?_ fun M8_16 => ?_
 ·
  clear HF HM HS; rintro a wM ⟨HF, HM⟩
  have HS := HM.picksT (fs' := (.row (.slice As z.length cs) z.length (z.map Rw.val) 44 1 :: .blk g2 #[vI 0, vQ 0, .slice none 0 0, .slice none 0 0, .slice none 0 0, .slice none 0 0, .slice none 0 0] 30 :: rwF 43 z)) 3 [0, 1] (by decide) (by decide) rfl
  refine qm [1] (by kernel_rfl) rfl ?_
  refine all_cons ?_ all_nil
  refine qk HF (i := 1) rfl rfl ?_
  refine Yl.wp (S := fun wS => Mem w wS _) (v := .agg #[vI x.cpus, vQ x.credit, .slice x.gA x.gs.length x.gc]) (Yl.qr rfl rfl qas rfl (fun _ h => h.sub (i := 2) rfl 0 rfl)) HF HM rfl (by decide) fun a HF => ?_
  refine keepS HS (fun HS => ?_)
  exact M8_9 _ _ ⟨HF.sub (by kernel_rfl), HM.picksT 3 [0, 1, 2] (by decide) (by decide) rfl⟩
 refine q8 (f := 16) (l := #[true, true, false, true, true, false, true, false, false, true, true, false, false, true, false, false, false, false, false, false, false, false, false, false]) (fun aS wS => Fr aS 44 [] [(28, .slice x.lA x.cl.length x.lc), (25, .agg #[vI x.cpus, vQ x.credit, .slice x.gA x.gs.length x.gc]), (37, .slice As z.length cs), (34, vP g1 5), (33, .slice none 0 0), (30, vP g1 4), (27, vP g1 3), (24, vP g1 0), (11, .bool false), (10, vI x.rs.length), (9, .slice x.sA x.rs.length x.sc), (8, vP g1 6), (7, vI i), (5, vI i), (4, .slice As z.length cs), (3, .slice none 0 0), (2, vP g2 0), (1, vP g1 0)] ∧ Mem w wS (.row (.slice As z.length cs) z.length (z.map Rw.val) 44 1 :: .blk g2 #[vI 0, vQ 0, .slice none 0 0, .slice none 0 0, .slice none 0 0, .slice none 0 0, .slice none 0 0] 30 :: .blk g1 x.cells 30 :: rwF 43 z)) ?_ fun M8_17 => ?_
 ·
  clear HF HM HS; rintro a wM ⟨HF, HM⟩
  have HS := HM.picksT (fs' := (.row (.slice As z.length cs) z.length (z.map Rw.val) 44 1 :: .blk g2 #[vI 0, vQ 0, .slice none 0 0, .slice none 0 0, .slice none 0 0, .slice none 0 0, .slice none 0 0] 30 :: rwF 43 z)) 3 [0, 1] (by decide) (by decide) rfl
  refine qm [2, 7, 11] (by kernel_rfl) rfl ?_
  refine all_cons ?_ ?_
  ·refine qk HF (i := 2) rfl rfl ?_
   refine e_cl HF [.agg #[vI x.cpus, vQ x.credit, .slice x.gA x.gs.length x.gc]] rfl rfl (zo x _ (hx.old HM) hf.g) ?_
   rintro _ w26 ⟨⟨A26, c26, rfl, ho, hc26⟩, hbw⟩
   refine ⟨_, rfl, ?_⟩
   replace HM := HM.callRow hbw ho
   clear HF; intro a HF
   refine keepS (HM.picksT 4 [1, 2] (by decide) (by decide) rfl) (fun HS => ?_)
   exact M8_10 _ _ ⟨A26, c26, HF.sub (by kernel_rfl), HM.picksT 4 [0, 1, 2, 3] (by decide) (by decide) rfl, hc26⟩
  refine all_cons ?_ ?_
  ·refine qk HF (i := 7) rfl rfl ?_
   refine Yl.wp (S := fun wS => Mem w wS _) (v := .slice x.uA x.cu.length x.uc) (Yl.qf rfl rfl (by kernel_rfl) (fun _ h => h.cell (i := 2) rfl (rfl))) HF HM rfl (by decide) fun a HF => ?_
   refine keepS HS (fun HS => ?_)
   exact M8_13 _ _ ⟨HF.sub (by kernel_rfl), HM.picksT 3 [0, 1, 2] (by decide) (by decide) rfl⟩
  refine all_cons ?_ all_nil
  refine qk HF (i := 11) rfl rfl ?_
  refine Yl.wp (S := fun wS => Mem w wS _) (v := .slice x.tA x.ts.length x.tc) (Yl.qf rfl rfl (by kernel_rfl) (fun _ h => h.cell (i := 2) rfl (rfl))) HF HM rfl (by decide) fun a HF => ?_
  refine keepS HS (fun HS => ?_)
  exact M8_14 _ _ ⟨HF.sub (by kernel_rfl), HM.picksT 3 [0, 1, 2] (by decide) (by decide) rfl⟩
 refine q8 (f := 16) (l := #[true, true, false, true, false, false, true, true, false, true, true, false, false, true, false, false, false, false, false, false, false, false, false, false]) (fun aS wS => Fr aS 44 [] [(31, .slice x.uA x.cu.length x.uc), (25, .agg #[vI x.cpus, vQ x.credit, .slice x.gA x.gs.length x.gc]), (37, .slice As z.length cs), (34, vP g1 5), (33, .slice none 0 0), (30, vP g1 4), (27, vP g1 3), (24, vP g1 0), (11, .bool false), (10, vI x.rs.length), (9, .slice x.sA x.rs.length x.sc), (8, vP g1 6), (7, vI i), (5, vI i), (4, .slice As z.length cs), (3, .slice none 0 0), (2, vP g2 0), (1, vP g1 0)] ∧ Mem w wS (.row (.slice As z.length cs) z.length (z.map Rw.val) 44 1 :: .blk g2 #[vI 0, vQ 0, .slice none 0 0, .slice none 0 0, .slice none 0 0, .slice none 0 0, .slice none 0 0] 30 :: .blk g1 x.cells 30 :: rwF 43 z)) ?_ fun M8_18 => ?_
 ·
  clear HF HM HS; rintro a wM ⟨HF, HM⟩
  have HS := HM.picksT (fs' := (.row (.slice As z.length cs) z.length (z.map Rw.val) 44 1 :: .blk g2 #[vI 0, vQ 0, .slice none 0 0, .slice none 0 0, .slice none 0 0, .slice none 0 0, .slice none 0 0] 30 :: rwF 43 z)) 3 [0, 1] (by decide) (by decide) rfl
  refine qm [2, 4, 11] (by kernel_rfl) rfl ?_
  refine all_cons ?_ ?_
  ·refine qk HF (i := 2) rfl rfl ?_
   refine e_cl HF [.agg #[vI x.cpus, vQ x.credit, .slice x.gA x.gs.length x.gc]] rfl rfl (zo x _ (hx.old HM) hf.g) ?_
   rintro _ w26 ⟨⟨A26, c26, rfl, ho, hc26⟩, hbw⟩
   refine ⟨_, rfl, ?_⟩
   replace HM := HM.callRow hbw ho
   clear HF; intro a HF
   refine keepS (HM.picksT 4 [1, 2] (by decide) (by decide) rfl) (fun HS => ?_)
   exact M8_11 _ _ ⟨A26, c26, HF.sub (by kernel_rfl), HM.picksT 4 [0, 1, 2, 3] (by decide) (by decide) rfl, hc26⟩
  refine all_cons ?_ ?_
  ·refine qk HF (i := 4) rfl rfl ?_
   refine Yl.wp (S := fun wS => Mem w wS _) (v := .slice x.lA x.cl.length x.lc) (Yl.qf rfl rfl (by kernel_rfl) (fun _ h => h.cell (i := 2) rfl (rfl))) HF HM rfl (by decide) fun a HF => ?_
   refine keepS HS (fun HS => ?_)
   exact M8_13 _ _ ⟨HF.sub (by kernel_rfl), HM.picksT 3 [0, 1, 2] (by decide) (by decide) rfl⟩
  refine all_cons ?_ all_nil
  refine qk HF (i := 11) rfl rfl ?_
  refine Yl.wp (S := fun wS => Mem w wS _) (v := .slice x.tA x.ts.length x.tc) (Yl.qf rfl rfl (by kernel_rfl) (fun _ h => h.cell (i := 2) rfl (rfl))) HF HM rfl (by decide) fun a HF => ?_
  refine keepS HS (fun HS => ?_)
  exact M8_15 _ _ ⟨HF.sub (by kernel_rfl), HM.picksT 3 [0, 1, 2] (by decide) (by decide) rfl⟩
 refine q8 (f := 16) (l := #[true, true, false, true, false, false, true, false, false, true, true, true, false, true, false, false, false, false, false, false, false, false, false, false]) (fun aS wS => Fr aS 44 [] [(35, .slice x.tA x.ts.length x.tc), (25, .agg #[vI x.cpus, vQ x.credit, .slice x.gA x.gs.length x.gc]), (37, .slice As z.length cs), (34, vP g1 5), (33, .slice none 0 0), (30, vP g1 4), (27, vP g1 3), (24, vP g1 0), (11, .bool false), (10, vI x.rs.length), (9, .slice x.sA x.rs.length x.sc), (8, vP g1 6), (7, vI i), (5, vI i), (4, .slice As z.length cs), (3, .slice none 0 0), (2, vP g2 0), (1, vP g1 0)] ∧ Mem w wS (.row (.slice As z.length cs) z.length (z.map Rw.val) 44 1 :: .blk g2 #[vI 0, vQ 0, .slice none 0 0, .slice none 0 0, .slice none 0 0, .slice none 0 0, .slice none 0 0] 30 :: .blk g1 x.cells 30 :: rwF 43 z)) ?_ fun M8_19 => ?_
 ·
  clear HF HM HS; rintro a wM ⟨HF, HM⟩
  have HS := HM.picksT (fs' := (.row (.slice As z.length cs) z.length (z.map Rw.val) 44 1 :: .blk g2 #[vI 0, vQ 0, .slice none 0 0, .slice none 0 0, .slice none 0 0, .slice none 0 0, .slice none 0 0] 30 :: rwF 43 z)) 3 [0, 1] (by decide) (by decide) rfl
  refine qm [2, 4, 7] (by kernel_rfl) rfl ?_
  refine all_cons ?_ ?_
  ·refine qk HF (i := 2) rfl rfl ?_
   refine e_cl HF [.agg #[vI x.cpus, vQ x.credit, .slice x.gA x.gs.length x.gc]] rfl rfl (zo x _ (hx.old HM) hf.g) ?_
   rintro _ w26 ⟨⟨A26, c26, rfl, ho, hc26⟩, hbw⟩
   refine ⟨_, rfl, ?_⟩
   replace HM := HM.callRow hbw ho
   clear HF; intro a HF
   refine keepS (HM.picksT 4 [1, 2] (by decide) (by decide) rfl) (fun HS => ?_)
   exact M8_12 _ _ ⟨A26, c26, HF.sub (by kernel_rfl), HM.picksT 4 [0, 1, 2, 3] (by decide) (by decide) rfl, hc26⟩
  refine all_cons ?_ ?_
  ·refine qk HF (i := 4) rfl rfl ?_
   refine Yl.wp (S := fun wS => Mem w wS _) (v := .slice x.lA x.cl.length x.lc) (Yl.qf rfl rfl (by kernel_rfl) (fun _ h => h.cell (i := 2) rfl (rfl))) HF HM rfl (by decide) fun a HF => ?_
   refine keepS HS (fun HS => ?_)
   exact M8_14 _ _ ⟨HF.sub (by kernel_rfl), HM.picksT 3 [0, 1, 2] (by decide) (by decide) rfl⟩
  refine all_cons ?_ all_nil
  refine qk HF (i := 7) rfl rfl ?_
  refine Yl.wp (S := fun wS => Mem w wS _) (v := .slice x.uA x.cu.length x.uc) (Yl.qf rfl rfl (by kernel_rfl) (fun _ h => h.cell (i := 2) rfl (rfl))) HF HM rfl (by decide) fun a HF => ?_
  refine keepS HS (fun HS => ?_)
  exact M8_15 _ _ ⟨HF.sub (by kernel_rfl), HM.picksT 3 [0, 1, 2] (by decide) (by decide) rfl⟩
 refine q8 (f := 16) (l := #[true, false, false, true, true, false, true, true, false, true, true, false, false, true, false, false, false, false, false, false, false, false, false, false]) (fun aS wS => Fr aS 44 [] [(31, .slice x.uA x.cu.length x.uc), (28, .slice x.lA x.cl.length x.lc), (37, .slice As z.length cs), (34, vP g1 5), (33, .slice none 0 0), (30, vP g1 4), (27, vP g1 3), (24, vP g1 0), (11, .bool false), (10, vI x.rs.length), (9, .slice x.sA x.rs.length x.sc), (8, vP g1 6), (7, vI i), (5, vI i), (4, .slice As z.length cs), (3, .slice none 0 0), (2, vP g2 0), (1, vP g1 0)] ∧ Mem w wS (.row (.slice As z.length cs) z.length (z.map Rw.val) 44 1 :: .blk g2 #[vI 0, vQ 0, .slice none 0 0, .slice none 0 0, .slice none 0 0, .slice none 0 0, .slice none 0 0] 30 :: .blk g1 x.cells 30 :: rwF 43 z)) ?_ fun M8_20 => ?_
 ·
  clear HF HM HS; rintro a wM ⟨HF, HM⟩
  have HS := HM.picksT (fs' := (.row (.slice As z.length cs) z.length (z.map Rw.val) 44 1 :: .blk g2 #[vI 0, vQ 0, .slice none 0 0, .slice none 0 0, .slice none 0 0, .slice none 0 0, .slice none 0 0] 30 :: rwF 43 z)) 3 [0, 1] (by decide) (by decide) rfl
  refine qm [1, 11] (by kernel_rfl) rfl ?_
  refine all_cons ?_ ?_
  ·refine qk HF (i := 1) rfl rfl ?_
   refine Yl.wp (S := fun wS => Mem w wS _) (v := .agg #[vI x.cpus, vQ x.credit, .slice x.gA x.gs.length x.gc]) (Yl.qr rfl rfl qas rfl (fun _ h => h.sub (i := 2) rfl 0 rfl)) HF HM rfl (by decide) fun a HF => ?_
   refine keepS HS (fun HS => ?_)
   exact M8_13 _ _ ⟨HF.sub (by kernel_rfl), HM.picksT 3 [0, 1, 2] (by decide) (by decide) rfl⟩
  refine all_cons ?_ all_nil
  refine qk HF (i := 11) rfl rfl ?_
  refine Yl.wp (S := fun wS => Mem w wS _) (v := .slice x.tA x.ts.length x.tc) (Yl.qf rfl rfl (by kernel_rfl) (fun _ h => h.cell (i := 2) rfl (rfl))) HF HM rfl (by decide) fun a HF => ?_
  refine keepS HS (fun HS => ?_)
  exact M8_16 _ _ ⟨HF.sub (by kernel_rfl), HM.picksT 3 [0, 1, 2] (by decide) (by decide) rfl⟩
 refine q8 (f := 16) (l := #[true, false, false, true, true, false, true, false, false, true, true, true, false, true, false, false, false, false, false, false, false, false, false, false]) (fun aS wS => Fr aS 44 [] [(35, .slice x.tA x.ts.length x.tc), (28, .slice x.lA x.cl.length x.lc), (37, .slice As z.length cs), (34, vP g1 5), (33, .slice none 0 0), (30, vP g1 4), (27, vP g1 3), (24, vP g1 0), (11, .bool false), (10, vI x.rs.length), (9, .slice x.sA x.rs.length x.sc), (8, vP g1 6), (7, vI i), (5, vI i), (4, .slice As z.length cs), (3, .slice none 0 0), (2, vP g2 0), (1, vP g1 0)] ∧ Mem w wS (.row (.slice As z.length cs) z.length (z.map Rw.val) 44 1 :: .blk g2 #[vI 0, vQ 0, .slice none 0 0, .slice none 0 0, .slice none 0 0, .slice none 0 0, .slice none 0 0] 30 :: .blk g1 x.cells 30 :: rwF 43 z)) ?_ fun M8_21 => ?_
 ·
  clear HF HM HS; rintro a wM ⟨HF, HM⟩
  have HS := HM.picksT (fs' := (.row (.slice As z.length cs) z.length (z.map Rw.val) 44 1 :: .blk g2 #[vI 0, vQ 0, .slice none 0 0, .slice none 0 0, .slice none 0 0, .slice none 0 0, .slice none 0 0] 30 :: rwF 43 z)) 3 [0, 1] (by decide) (by decide) rfl
  refine qm [1, 7] (by kernel_rfl) rfl ?_
  refine all_cons ?_ ?_
  ·refine qk HF (i := 1) rfl rfl ?_
   refine Yl.wp (S := fun wS => Mem w wS _) (v := .agg #[vI x.cpus, vQ x.credit, .slice x.gA x.gs.length x.gc]) (Yl.qr rfl rfl qas rfl (fun _ h => h.sub (i := 2) rfl 0 rfl)) HF HM rfl (by decide) fun a HF => ?_
   refine keepS HS (fun HS => ?_)
   exact M8_14 _ _ ⟨HF.sub (by kernel_rfl), HM.picksT 3 [0, 1, 2] (by decide) (by decide) rfl⟩
  refine all_cons ?_ all_nil
  refine qk HF (i := 7) rfl rfl ?_
  refine Yl.wp (S := fun wS => Mem w wS _) (v := .slice x.uA x.cu.length x.uc) (Yl.qf rfl rfl (by kernel_rfl) (fun _ h => h.cell (i := 2) rfl (rfl))) HF HM rfl (by decide) fun a HF => ?_
  refine keepS HS (fun HS => ?_)
  exact M8_16 _ _ ⟨HF.sub (by kernel_rfl), HM.picksT 3 [0, 1, 2] (by decide) (by decide) rfl⟩
 refine q8 (f := 16) (l := #[true, false, false, true, false, false, true, true, false, true, true, true, false, true, false, false, false, false, false, false, false, false, false, false]) (fun aS wS => Fr aS 44 [] [(35, .slice x.tA x.ts.length x.tc), (31, .slice x.uA x.cu.length x.uc), (37, .slice As z.length cs), (34, vP g1 5), (33, .slice none 0 0), (30, vP g1 4), (27, vP g1 3), (24, vP g1 0), (11, .bool false), (10, vI x.rs.length), (9, .slice x.sA x.rs.length x.sc), (8, vP g1 6), (7, vI i), (5, vI i), (4, .slice As z.length cs), (3, .slice none 0 0), (2, vP g2 0), (1, vP g1 0)] ∧ Mem w wS (.row (.slice As z.length cs) z.length (z.map Rw.val) 44 1 :: .blk g2 #[vI 0, vQ 0, .slice none 0 0, .slice none 0 0, .slice none 0 0, .slice none 0 0, .slice none 0 0] 30 :: .blk g1 x.cells 30 :: rwF 43 z)) ?_ fun M8_22 => ?_
 ·
  clear HF HM HS; rintro a wM ⟨HF, HM⟩
  have HS := HM.picksT (fs' := (.row (.slice As z.length cs) z.length (z.map Rw.val) 44 1 :: .blk g2 #[vI 0, vQ 0, .slice none 0 0, .slice none 0 0, .slice none 0 0, .slice none 0 0, .slice none 0 0] 30 :: rwF 43 z)) 3 [0, 1] (by decide) (by decide) rfl
  refine qm [1, 4] (by kernel_rfl) rfl ?_
  refine all_cons ?_ ?_
  ·refine qk HF (i := 1) rfl rfl ?_
   refine Yl.wp (S := fun wS => Mem w wS _) (v := .agg #[vI x.cpus, vQ x.credit, .slice x.gA x.gs.length x.gc]) (Yl.qr rfl rfl qas rfl (fun _ h => h.sub (i := 2) rfl 0 rfl)) HF HM rfl (by decide) fun a HF => ?_
   refine keepS HS (fun HS => ?_)
   exact M8_15 _ _ ⟨HF.sub (by kernel_rfl), HM.picksT 3 [0, 1, 2] (by decide) (by decide) rfl⟩
  refine all_cons ?_ all_nil
  refine qk HF (i := 4) rfl rfl ?_
  refine Yl.wp (S := fun wS => Mem w wS _) (v := .slice x.lA x.cl.length x.lc) (Yl.qf rfl rfl (by kernel_rfl) (fun _ h => h.cell (i := 2) rfl (rfl))) HF HM rfl (by decide) fun a HF => ?_
  refine keepS HS (fun HS => ?_)
  exact M8_16 _ _ ⟨HF.sub (by kernel_rfl), HM.picksT 3 [0, 1, 2] (by decide) (by decide) rfl⟩
 refine ap HF (fun _ => HS) [0, 3, 6, 9, 10, 13] #[true, false, false, true, false, false, true, false, false, true, true, false, false, true, false, false, false, false, false, false, false, false, false, false] [(37, .slice As z.length cs), (34, vP g1 5), (33, .slice none 0 0), (30, vP g1 4), (27, vP g1 3), (24, vP g1 0)] fun a HF => ?_
 refine qm [1, 4, 7, 11] (by kernel_rfl) rfl ?_
 refine all_cons ?_ ?_
 ·refine qk HF (i := 1) rfl rfl ?_
  refine Yl.wp (S := fun wS => Mem w wS _) (v := .agg #[vI x.cpus, vQ x.credit, .slice x.gA x.gs.length x.gc]) (Yl.qr rfl rfl qas rfl (fun _ h => h.sub (i := 2) rfl 0 rfl)) HF HM rfl (by decide) fun a HF => ?_
  refine keepS HS (fun HS => ?_)
  refine qm [2, 4, 7, 11] (by kernel_rfl) rfl ?_
  refine all_cons ?_ ?_
  ·refine qk HF (i := 2) rfl rfl ?_
   refine e_cl HF [.agg #[vI x.cpus, vQ x.credit, .slice x.gA x.gs.length x.gc]] rfl rfl (zo x _ (hx.old HM) hf.g) ?_
   rintro _ w26 ⟨⟨A26, c26, rfl, ho, hc26⟩, hbw⟩
   refine ⟨_, rfl, ?_⟩
   replace HM := HM.callRow hbw ho
   clear HF; intro a HF
   refine keepS (HM.picksT 4 [1, 2] (by decide) (by decide) rfl) (fun HS => ?_)
   refine qm [4, 7, 11] (by kernel_rfl) rfl ?_
   refine all_cons ?_ ?_
   ·refine qk HF (i := 4) rfl rfl ?_
    refine Yl.wp (S := fun wS => Mem w wS _) (v := .slice x.lA x.cl.length x.lc) (Yl.qf rfl rfl (by kernel_rfl) (fun _ h => h.cell (i := 3) rfl (rfl))) HF HM rfl (by decide) fun a HF => ?_
    refine keepS HS (fun HS => ?_)
    exact M8_10 _ _ ⟨A26, c26, HF.sub (by kernel_rfl), HM.picksT 4 [0, 1, 2, 3] (by decide) (by decide) rfl, hc26⟩
   refine all_cons ?_ ?_
   ·refine qk HF (i := 7) rfl rfl ?_
    refine Yl.wp (S := fun wS => Mem w wS _) (v := .slice x.uA x.cu.length x.uc) (Yl.qf rfl rfl (by kernel_rfl) (fun _ h => h.cell (i := 3) rfl (rfl))) HF HM rfl (by decide) fun a HF => ?_
    refine keepS HS (fun HS => ?_)
    exact M8_11 _ _ ⟨A26, c26, HF.sub (by kernel_rfl), HM.picksT 4 [0, 1, 2, 3] (by decide) (by decide) rfl, hc26⟩
   refine all_cons ?_ all_nil
   refine qk HF (i := 11) rfl rfl ?_
   refine Yl.wp (S := fun wS => Mem w wS _) (v := .slice x.tA x.ts.length x.tc) (Yl.qf rfl rfl (by kernel_rfl) (fun _ h => h.cell (i := 3) rfl (rfl))) HF HM rfl (by decide) fun a HF => ?_
   refine keepS HS (fun HS => ?_)
   exact M8_12 _ _ ⟨A26, c26, HF.sub (by kernel_rfl), HM.picksT 4 [0, 1, 2, 3] (by decide) (by decide) rfl, hc26⟩
  refine all_cons ?_ ?_
  ·refine qk HF (i := 4) rfl rfl ?_
   refine Yl.wp (S := fun wS => Mem w wS _) (v := .slice x.lA x.cl.length x.lc) (Yl.qf rfl rfl (by kernel_rfl) (fun _ h => h.cell (i := 2) rfl (rfl))) HF HM rfl (by decide) fun a HF => ?_
   refine keepS HS (fun HS => ?_)
   exact M8_17 _ _ ⟨HF.sub (by kernel_rfl), HM.picksT 3 [0, 1, 2] (by decide) (by decide) rfl⟩
  refine all_cons ?_ ?_
  ·refine qk HF (i := 7) rfl rfl ?_
   refine Yl.wp (S := fun wS => Mem w wS _) (v := .slice x.uA x.cu.length x.uc) (Yl.qf rfl rfl (by kernel_rfl) (fun _ h => h.cell (i := 2) rfl (rfl))) HF HM rfl (by decide) fun a HF => ?_
   refine keepS HS (fun HS => ?_)
   exact M8_18 _ _ ⟨HF.sub (by kernel_rfl), HM.picksT 3 [0, 1, 2] (by decide) (by decide) rfl⟩
  refine all_cons ?_ all_nil
  refine qk HF (i := 11) rfl rfl ?_
  refine Yl.wp (S := fun wS => Mem w wS _) (v := .slice x.tA x.ts.length x.tc) (Yl.qf rfl rfl (by kernel_rfl) (fun _ h => h.cell (i := 2) rfl (rfl))) HF HM rfl (by decide) fun a HF => ?_
  refine keepS HS (fun HS => ?_)
  exact M8_19 _ _ ⟨HF.sub (by kernel_rfl), HM.picksT 3 [0, 1, 2] (by decide) (by decide) rfl⟩
 refine all_cons ?_ ?_
 ·refine qk HF (i := 4) rfl rfl ?_
  refine Yl.wp (S := fun wS => Mem w wS _) (v := .slice x.lA x.cl.length x.lc) (Yl.qf rfl rfl (by kernel_rfl) (fun _ h => h.cell (i := 2) rfl (rfl))) HF HM rfl (by decide) fun a HF => ?_
  refine keepS HS (fun HS => ?_)
  refine qm [1, 7, 11] (by kernel_rfl) rfl ?_
  refine all_cons ?_ ?_
  ·refine qk HF (i := 1) rfl rfl ?_
   refine Yl.wp (S := fun wS => Mem w wS _) (v := .agg #[vI x.cpus, vQ x.credit, .slice x.gA x.gs.length x.gc]) (Yl.qr rfl rfl qas rfl (fun _ h => h.sub (i := 2) rfl 0 rfl)) HF HM rfl (by decide) fun a HF => ?_
   refine keepS HS (fun HS => ?_)
   exact M8_17 _ _ ⟨HF.sub (by kernel_rfl), HM.picksT 3 [0, 1, 2] (by decide) (by decide) rfl⟩
  refine all_cons ?_ ?_
  ·refine qk HF (i := 7) rfl rfl ?_
   refine Yl.wp (S := fun wS => Mem w wS _) (v := .slice x.uA x.cu.length x.uc) (Yl.qf rfl rfl (by kernel_rfl) (fun _ h => h.cell (i := 2) rfl (rfl))) HF HM rfl (by decide) fun a HF => ?_
   refine keepS HS (fun HS => ?_)
   exact M8_20 _ _ ⟨HF.sub (by kernel_rfl), HM.picksT 3 [0, 1, 2] (by decide) (by decide) rfl⟩
  refine all_cons ?_ all_nil
  refine qk HF (i := 11) rfl rfl ?_
  refine Yl.wp (S := fun wS => Mem w wS _) (v := .slice x.tA x.ts.length x.tc) (Yl.qf rfl rfl (by kernel_rfl) (fun _ h => h.cell (i := 2) rfl (rfl))) HF HM rfl (by decide) fun a HF => ?_
  refine keepS HS (fun HS => ?_)
  exact M8_21 _ _ ⟨HF.sub (by kernel_rfl), HM.picksT 3 [0, 1, 2] (by decide) (by decide) rfl⟩
 refine all_cons ?_ ?_
 ·refine qk HF (i := 7) rfl rfl ?_
  refine Yl.wp (S := fun wS => Mem w wS _) (v := .slice x.uA x.cu.length x.uc) (Yl.qf rfl rfl (by kernel_rfl) (fun _ h => h.cell (i := 2) rfl (rfl))) HF HM rfl (by decide) fun a HF => ?_
  refine keepS HS (fun HS => ?_)
  refine qm [1, 4, 11] (by kernel_rfl) rfl ?_
  refine all_cons ?_ ?_
  ·refine qk HF (i := 1) rfl rfl ?_
   refine Yl.wp (S := fun wS => Mem w wS _) (v := .agg #[vI x.cpus, vQ x.credit, .slice x.gA x.gs.length x.gc]) (Yl.qr rfl rfl qas rfl (fun _ h => h.sub (i := 2) rfl 0 rfl)) HF HM rfl (by decide) fun a HF => ?_
   refine keepS HS (fun HS => ?_)
   exact M8_18 _ _ ⟨HF.sub (by kernel_rfl), HM.picksT 3 [0, 1, 2] (by decide) (by decide) rfl⟩
  refine all_cons ?_ ?_
  ·refine qk HF (i := 4) rfl rfl ?_
   refine Yl.wp (S := fun wS => Mem w wS _) (v := .slice x.lA x.cl.length x.lc) (Yl.qf rfl rfl (by kernel_rfl) (fun _ h => h.cell (i := 2) rfl (rfl))) HF HM rfl (by decide) fun a HF => ?_
   refine keepS HS (fun HS => ?_)
   exact M8_20 _ _ ⟨HF.sub (by kernel_rfl), HM.picksT 3 [0, 1, 2] (by decide) (by decide) rfl⟩
  refine all_cons ?_ all_nil
  refine qk HF (i := 11) rfl rfl ?_
  refine Yl.wp (S := fun wS => Mem w wS _) (v := .slice x.tA x.ts.length x.tc) (Yl.qf rfl rfl (by kernel_rfl) (fun _ h => h.cell (i := 2) rfl (rfl))) HF HM rfl (by decide) fun a HF => ?_
  refine keepS HS (fun HS => ?_)
  exact M8_22 _ _ ⟨HF.sub (by kernel_rfl), HM.picksT 3 [0, 1, 2] (by decide) (by decide) rfl⟩
 refine all_cons ?_ all_nil
 refine qk HF (i := 11) rfl rfl ?_
 refine Yl.wp (S := fun wS => Mem w wS _) (v := .slice x.tA x.ts.length x.tc) (Yl.qf rfl rfl (by kernel_rfl) (fun _ h => h.cell (i := 2) rfl (rfl))) HF HM rfl (by decide) fun a HF => ?_
 refine keepS HS (fun HS => ?_)
 refine qm [1, 4, 7] (by kernel_rfl) rfl ?_
 refine all_cons ?_ ?_
 ·refine qk HF (i := 1) rfl rfl ?_
  refine Yl.wp (S := fun wS => Mem w wS _) (v := .agg #[vI x.cpus, vQ x.credit, .slice x.gA x.gs.length x.gc]) (Yl.qr rfl rfl qas rfl (fun _ h => h.sub (i := 2) rfl 0 rfl)) HF HM rfl (by decide) fun a HF => ?_
  refine keepS HS (fun HS => ?_)
  exact M8_19 _ _ ⟨HF.sub (by kernel_rfl), HM.picksT 3 [0, 1, 2] (by decide) (by decide) rfl⟩
 refine all_cons ?_ ?_
 ·refine qk HF (i := 4) rfl rfl ?_
  refine Yl.wp (S := fun wS => Mem w wS _) (v := .slice x.lA x.cl.length x.lc) (Yl.qf rfl rfl (by kernel_rfl) (fun _ h => h.cell (i := 2) rfl (rfl))) HF HM rfl (by decide) fun a HF => ?_
  refine keepS HS (fun HS => ?_)
  exact M8_21 _ _ ⟨HF.sub (by kernel_rfl), HM.picksT 3 [0, 1, 2] (by decide) (by decide) rfl⟩
 refine all_cons ?_ all_nil
 refine qk HF (i := 7) rfl rfl ?_
 refine Yl.wp (S := fun wS => Mem w wS _) (v := .slice x.uA x.cu.length x.uc) (Yl.qf rfl rfl (by kernel_rfl) (fun _ h => h.cell (i := 2) rfl (rfl))) HF HM rfl (by decide) fun a HF => ?_
 refine keepS HS (fun HS => ?_)
 exact M8_22 _ _ ⟨HF.sub (by kernel_rfl), HM.picksT 3 [0, 1, 2] (by decide) (by decide) rfl⟩
theorem qnd (c : Nat) (hc : c < 4294967296) (A : Option Addr) (n cp : Nat) (l : List Nat) (B : Nat) (w : World) (hL : LaidX B w) (hB : B ≤ w.heap.size) (hr : Rd w w.heap.size 1 A n (l.map B8)) (hln : l.length = n) (hn : n ≤ 140737488355328) (hl : ∀ b ∈ l, b < 256) :
    Calls Tryz.prog 99 #[.int .u32 (c : Int), .slice A n cp] w (Is w (.int .u32 (qy c l : Int))) := by
 refine qg (vs := [vW c, .slice A n cp]) Tryz.func99 rfl rfl (by kernel_rfl) (σ0 := [(0, vW c), (1, .slice A n cp)]) rfl ?_
 intro a HF
 have HM := Mem.start w
 refine wp_seq (qa ?_)
 refine fp HF 1 0 [(4, vW 0)] fun a HF => ?_
 refine qb rfl (wp_seq (wp_seq (qa ?_)))
 refine fp HF 1 0 [(7, .slice A n cp)] fun a HF => ?_
 refine fy HF HM 1 rfl rfl rfl (Yl.len rfl rfl (by kernel_rfl)) fun a HF => ?_
 refine fp HF 1 2 [(9, vI 0)] fun a HF => ?_
 refine qb rfl (wp_block ?_)
 refine qo (fun mS aS wS => ∃ (k : Nat), (k ≤ n) ∧ mS = n - k ∧ Fr aS 33 [] [(9, vI k), (8, vI n), (7, .slice A n cp), (4, vW 0), (0, vW (qy c (l.take k)))] ∧ Mem w wS []) (m := n - 0) ⟨0, Nat.zero_le _, rfl, HF.sub (by kernel_rfl), HM.picks [] (by decide) rfl⟩ ?_
 clear HF HM; rintro mS a w_ ⟨k, hk, rfl, HF, HM⟩
 have hcr := qco (l.take k) hc (qjz hl k)
 refine wp_seq (qa ?_)
 refine fp HF 1 0 [(10, .bool (decide ((k : Int) < (n : Int))))] fun a HF => ?_
 refine qb rfl (wp_seq ?_)
 rcases HF.tf 10 rfl with ⟨hb10, HF⟩ | ⟨hb10, HF⟩
 ·
  have hd10 := of_decide_eq_true hb10
  refine qd HF rfl (wp_skip (wp_seq (wp_block (wp_seq (qa ?_)))))
  obtain ⟨gA, oA, rfl, _⟩ := hr.qp (Nat.lt_of_le_of_lt (Nat.zero_le _) (show k < n from by omega)) (by decide)
  refine fy HF HM 0 rfl rfl rfl (v := vP gA (oA + k * 1)) (Yl.ix gA oA k 1 rfl rfl rfl) fun a HF => ?_
  have hx34 := getD_lt hl (k := k) (by first | omega | (simp; omega))
  refine fy HF HM 1 rfl rfl rfl (v := vB (l.getD k 0)) (Yl.qf rfl rfl (by kernel_rfl) (fun _ h => (h.old hr).q7 (k := k) (qz (F := B8) (k := k) (x := (l.getD k 0)) ((getD_at 0 (k := k) (by first | omega | (simp; omega))))))) fun a HF => ?_
  refine fp HF 1 2 [(6, vB (l.getD k 0))] fun a HF => ?_
  refine qb rfl (wp_seq (qa ?_))
  refine fp HF 3 0 [(15, vW (IntKind.u32.wrap ((l.getD k 0) : Int))), (13, vW (qy c (l.take k)))] fun a HF => ?_
  replace HF := HF.sp 15 (vW (l.getD k 0)) rfl (zq rfl (by omega))
  refine fp HF 1 3 [(16, vW (IntKind.u32.wrap (BitVec.ofInt (IntKind.u32).bits (qy c (l.take k) : Int) ^^^ BitVec.ofInt (IntKind.u32).bits ((l.getD k 0) : Int)).toNat))] fun a HF => ?_
  replace HF := HF.sp 16 (vW ((qy c (l.take k)) ^^^ (l.getD k 0) : Nat)) rfl (qfb (m := qy c (l.take k)) (n := (l.getD k 0)) (by omega) (by omega))
  refine fp HF 1 4 [(0, vW ((qy c (l.take k)) ^^^ (l.getD k 0) : Nat))] fun a HF => ?_
  refine qb rfl ?_
  have hy := qdk hcr (show l.getD k 0 < 4294967296 by omega)
  refine wp_seq (qa ?_)
  refine fp HF 2 0 [(18, vW (Int.fdiv (((qy c (l.take k)) ^^^ (l.getD k 0) : Nat) : Int) (2 ^ (min (4 : Int).toNat (IntKind.u32).bits))))] fun a HF => ?_
  replace HF := HF.sp 18 (vW (((qy c (l.take k)) ^^^ (l.getD k 0)) / 16 : Nat)) rfl (qbh .u32 ((qy c (l.take k)) ^^^ (l.getD k 0)) (j := 4) (q := 16) rfl rfl)
  refine fp HF 2 2 [(20, vW (IntKind.u32.wrap (BitVec.ofInt (IntKind.u32).bits (((qy c (l.take k)) ^^^ (l.getD k 0) : Nat) : Int) &&& BitVec.ofInt (IntKind.u32).bits 15).toNat))] fun a HF => ?_
  replace HF := HF.sp 20 (vW (((qy c (l.take k)) ^^^ (l.getD k 0)) % 16 : Nat)) rfl (qld (n := 15) (j := 4) rfl (by decide) (by omega))
  refine fy HF HM 4 rfl rfl rfl (v := vP 0 ((((qy c (l.take k)) ^^^ (l.getD k 0)) % 16) * 1)) ((Yl.qeh (ad := ⟨0, 0, none⟩) (m := 16) (y := ((qy c (l.take k)) ^^^ (l.getD k 0)) % 16) (sz := 1) rfl rfl rfl (by kernel_rfl) (by omega)).as (by rw [Addr.add_mid, Nat.zero_add])) fun a HF => ?_
  refine fy HF HM 5 rfl rfl rfl (v := vW (qai.getD (((qy c (l.take k)) ^^^ (l.getD k 0)) % 16) 0)) (Yl.qf rfl rfl (by kernel_rfl) (fun _ h => qle hL h hB (k := (((qy c (l.take k)) ^^^ (l.getD k 0)) % 16)) (by omega))) fun a HF => ?_
  refine fp HF 1 6 [(23, vW (IntKind.u32.wrap (BitVec.ofInt (IntKind.u32).bits ((((qy c (l.take k)) ^^^ (l.getD k 0)) / 16 : Nat) : Int) ^^^ BitVec.ofInt (IntKind.u32).bits (qai.getD (((qy c (l.take k)) ^^^ (l.getD k 0)) % 16) 0 : Int)).toNat))] fun a HF => ?_
  replace HF := HF.sp 23 (vW (nib (qy c (l.take k) ^^^ l.getD k 0))) rfl (by have h := qfb (m := (qy c (l.take k) ^^^ l.getD k 0) / 16) (n := qai.getD ((qy c (l.take k) ^^^ l.getD k 0) % 16) 0) (by omega) (qfe _ (by omega)); exact h)
  refine fp HF 1 7 [(0, vW (nib (qy c (l.take k) ^^^ l.getD k 0)))] fun a HF => ?_
  refine qb rfl ?_
  have hz := qvk hy
  refine qa ?_
  refine fp HF 2 0 [(25, vW (Int.fdiv (nib (qy c (l.take k) ^^^ l.getD k 0) : Int) (2 ^ (min (4 : Int).toNat (IntKind.u32).bits))))] fun a HF => ?_
  replace HF := HF.sp 25 (vW ((nib (qy c (l.take k) ^^^ l.getD k 0)) / 16 : Nat)) rfl (qbh .u32 (nib (qy c (l.take k) ^^^ l.getD k 0)) (j := 4) (q := 16) rfl rfl)
  refine fp HF 2 2 [(27, vW (IntKind.u32.wrap (BitVec.ofInt (IntKind.u32).bits (nib (qy c (l.take k) ^^^ l.getD k 0) : Int) &&& BitVec.ofInt (IntKind.u32).bits 15).toNat))] fun a HF => ?_
  replace HF := HF.sp 27 (vW ((nib (qy c (l.take k) ^^^ l.getD k 0)) % 16 : Nat)) rfl (qld (n := 15) (j := 4) rfl (by decide) (by omega))
  refine fy HF HM 4 rfl rfl rfl (v := vP 0 (((nib (qy c (l.take k) ^^^ l.getD k 0)) % 16) * 1)) ((Yl.qeh (ad := ⟨0, 0, none⟩) (m := 16) (y := (nib (qy c (l.take k) ^^^ l.getD k 0)) % 16) (sz := 1) rfl rfl rfl (by kernel_rfl) (by omega)).as (by rw [Addr.add_mid, Nat.zero_add])) fun a HF => ?_
  refine fy HF HM 5 rfl rfl rfl (v := vW (qai.getD ((nib (qy c (l.take k) ^^^ l.getD k 0)) % 16) 0)) (Yl.qf rfl rfl (by kernel_rfl) (fun _ h => qle hL h hB (k := ((nib (qy c (l.take k) ^^^ l.getD k 0)) % 16)) (by omega))) fun a HF => ?_
  refine fp HF 1 6 [(30, vW (IntKind.u32.wrap (BitVec.ofInt (IntKind.u32).bits (((nib (qy c (l.take k) ^^^ l.getD k 0)) / 16 : Nat) : Int) ^^^ BitVec.ofInt (IntKind.u32).bits (qai.getD ((nib (qy c (l.take k) ^^^ l.getD k 0)) % 16) 0 : Int)).toNat))] fun a HF => ?_
  replace HF := HF.sp 30 (vW (qy c (l.take (k + 1)))) rfl (by have h := qfb (m := nib (qy c (l.take k) ^^^ l.getD k 0) / 16) (n := qai.getD (nib (qy c (l.take k) ^^^ l.getD k 0) % 16) 0) (by omega) (qfe _ (by omega)); rw [qff (by omega)]; exact h)
  refine fp HF 1 7 [(0, vW (qy c (l.take (k + 1))))] fun a HF => ?_
  refine qb rfl (qa ?_)
  refine fp HF 1 0 [(31, vI (IntKind.i64.wrap ((k : Int) + 1)))] fun a HF => ?_
  replace HF := HF.sp 31 (vI (k + 1 : Nat)) rfl (qi (by omega) (by omega))
  refine fp HF 1 1 [(9, vI (k + 1 : Nat))] fun a HF => ?_
  refine qb rfl ?_
  exact ⟨_, (by omega), k + 1, by omega, rfl, HF.sub (by kernel_rfl), HM.picks [] (by decide) rfl⟩
 have hd10 := of_decide_eq_false hb10
 obtain rfl : n = k := by omega
 refine qc HF rfl (wp_exit (wp_seq (qa ?_)))
 refine fp HF 2 0 [(4, vW (qy c (l.take n)))] fun a HF => ?_
 refine qb rfl (wp_ret ?_)
 exact ret1 rfl HF (.tmp HF rfl) (⟨by rw [List.take_of_length_le (by omega)], HM.below⟩)
theorem qne (c : Nat) (hc0 : c < 4294967296) (A : Option Addr) (n cp : Nat) (l : List Nat) (B : Nat) (w : World) (hL : LaidX B w) (hB : B ≤ w.heap.size) (hr : Rd w w.heap.size 1 A n (l.map B8)) (hln : l.length = n) (hn : n ≤ 140737488355328) (hl : ∀ b ∈ l, b < 256) :
    Calls Tryz.prog 70 #[.int .u32 (c : Int), .slice A n cp] w (Is w (.int .u32 ((qy (c ^^^ 4294967295) l ^^^ 4294967295 : Nat) : Int))) := by
 refine qg (vs := [vW c, .slice A n cp]) Tryz.func70 rfl rfl (by kernel_rfl) (σ0 := [(0, vW c), (1, .slice A n cp)]) rfl ?_
 intro a HF
 have HM := Mem.start w
 refine wp_seq (qa ?_)
 refine fp HF 1 0 [(4, vW 0)] fun a HF => ?_
 refine qb rfl ?_
 have hc := qdk hc0 (show 4294967295 < 4294967296 by decide)
 have hcr := qco l hc hl
 refine wp_seq (qa ?_)
 refine fp HF 1 0 [(5, vW c)] fun a HF => ?_
 refine fy HF HM 1 rfl rfl rfl (v := vW (c ^^^ 4294967295 : Nat)) (Yl.qwi (m := c) rfl rfl (by omega)) fun a HF => ?_
 refine fp HF 1 2 [(7, .slice A n cp)] fun a HF => ?_
 refine fo HF 3 rfl rfl ?_
 refine e_is HF HM [vW (c ^^^ 4294967295 : Nat), .slice A n cp] (vW (qy (c ^^^ 4294967295) l)) rfl rfl (qnd _ hc _ _ _ l B _ (hL.mem HM hB) (HM.le hB) (HM.old hr) hln hn hl) fun w8 hbw HM a HF => ?_
 refine fy HF HM 4 rfl rfl rfl (v := vW ((qy (c ^^^ 4294967295) l) ^^^ 4294967295 : Nat)) (Yl.qwi (m := qy (c ^^^ 4294967295) l) rfl rfl (by omega)) fun a HF => ?_
 refine fp HF 1 5 [(4, vW ((qy (c ^^^ 4294967295) l) ^^^ 4294967295 : Nat))] fun a HF => ?_
 refine qb rfl (wp_ret ?_)
 exact ret1 rfl HF (.tmp HF rfl) (⟨rfl, HM.below⟩)
theorem qcy (A : Option Addr) (n cp : Nat) (l : List Nat) (B : Nat) (w : World) (hL : LaidX B w) (hB : B ≤ w.heap.size) (hr : Rd w w.heap.size 1 A n (l.map B8)) (hln : l.length = n) (hn : n ≤ 140737488355328) (hl : ∀ b ∈ l, b < 256) :
    Calls Tryz.prog 35 #[.slice A n cp] w (Is w (.int .u32 (qu l : Int))) := by
 refine qg (vs := [.slice A n cp]) Tryz.func35 rfl rfl (by kernel_rfl) (σ0 := [(0, .slice A n cp)]) rfl ?_
 intro a HF
 have HM := Mem.start w
 refine wp_seq (qa ?_)
 refine fp HF 1 0 [(2, vW 0)] fun a HF => ?_
 refine qb rfl (wp_seq (qa ?_))
 refine fp HF 1 0 [(3, .slice A n cp)] fun a HF => ?_
 refine fo HF 1 rfl rfl ?_
 refine e_cl HF [vW 0, .slice A n cp] rfl rfl (qne 0 (by decide) _ _ _ l B _ (hL.mem HM hB) (HM.le hB) (HM.old hr) hln hn hl) ?_
 rintro _ w4 ⟨rfl, hbw⟩
 rw [show (qy (0 ^^^ 4294967295) l ^^^ 4294967295 : Nat) = qu l from qro (qco l (by decide) hl)]
 refine ⟨_, rfl, ?_⟩
 replace HM := HM.call hbw
 clear HF; intro a HF
 refine fp HF 1 2 [(2, vW (qu l))] fun a HF => ?_
 refine qb rfl (wp_ret ?_)
 exact ret1 rfl HF (.tmp HF rfl) (⟨rfl, HM.below⟩)
theorem quq {w w' : World} {l : List Nat} {n c : Nat} {A : Option Addr} (hln : l.length = n) (ho : w'.ownsRow w.heap.size 5 1 (.slice A (0 + n + 4) c) (0 + n + 4) ([] ++ l.map B8 ++ (le4 (qu l)).map B8)) (hc : 0 + n + 4 ≤ c) (hb : Below w.heap.size w w') : qcn w 0 (sealL l) (.returned (.tuple #[.slice A (0 + n + 4) c, .int .i64 0])) w' := by
 have e : 0 + n + 4 = (sealL l).length := by rw [qbj]; omega
 rw [e] at ho hc ⊢
 refine ⟨⟨A, c, rfl, ?_, hc⟩, hb⟩
 have e2 : ([] ++ l.map B8 ++ (le4 (qu l)).map B8) = (sealL l).map B8 := by simp [sealL]
 rw [e2] at ho
 exact ho
theorem qso (A : Option Addr) (n cp : Nat) (l : List Nat) (B : Nat) (w : World) (hL : LaidX B w) (hB : B ≤ w.heap.size) (hr : Rd w w.heap.size 1 A n (l.map B8)) (hln : l.length = n) (hn : n ≤ 16777216) (hl : ∀ b ∈ l, b < 256) :
    Calls Tryz.prog 56 #[.slice A n cp] w (qcn w 0 (sealL l)) := by
 refine qg (vs := [.slice A n cp]) Tryz.func56 rfl rfl (by kernel_rfl) (σ0 := [(0, .slice A n cp)]) rfl ?_
 intro a HF
 have HM := Mem.start w
 refine wp_seq (qa ?_)
 refine fp HF 2 0 [(3, vI 0), (2, .slice none 0 0)] fun a HF => ?_
 refine qb rfl (wp_seq (wp_seq (qa ?_)))
 refine fp HF 1 0 [(6, .slice A n cp)] fun a HF => ?_
 refine fy HF HM 1 rfl rfl rfl (Yl.len rfl rfl (by kernel_rfl)) fun a HF => ?_
 refine fp HF 1 2 [(8, .bool (decide ((n : Int) > (16777216 : Int))))] fun a HF => ?_
 refine qb rfl ?_
 rcases HF.tf 8 rfl with ⟨hb8, HF⟩ | ⟨hb8, HF⟩
 ·
  have hd8 := of_decide_eq_true hb8
  omega
 have hd8 := of_decide_eq_false hb8
 refine qc HF rfl (wp_skip (wp_seq (qa ?_)))
 refine fp HF 1 0 [(9, .slice A n cp)] fun a HF => ?_
 refine fo HF 1 rfl rfl ?_
 refine e_is HF HM [.slice A n cp] (vW (qu l)) rfl rfl (qcy _ _ _ l B _ (hL.mem HM hB) (HM.le hB) (HM.old hr) (hln) (by omega) (hl)) fun w10 hbw HM a HF => ?_
 refine fp HF 1 2 [(4, vW (qu l))] fun a HF => ?_
 refine qb rfl ?_
 have hcs := qcp l
 refine wp_seq (qa ?_)
 refine fp HF 1 0 [(11, .slice A n cp)] fun a HF => ?_
 refine fy HF HM 1 rfl rfl rfl (Yl.len rfl rfl (by kernel_rfl)) fun a HF => ?_
 refine fp HF 1 2 [(13, vI (IntKind.i64.wrap ((n : Int) + 4)))] fun a HF => ?_
 replace HF := HF.sp 13 (vI (n + 4 : Nat)) rfl (qi (by omega) (by omega))
 refine fo HF 3 rfl rfl ?_
 refine qtu HF HM (m := (n + 4)) rfl ei_u8 rfl rfl (by omega) (by omega) rfl (by decide) ?_
 clear HF HM; intro a w14 g14 HF HM
 refine fp HF 1 4 [(15, .slice A n cp)] fun a HF => ?_
 refine fo HF 5 rfl rfl ?_
 refine qw HF HM (i := 0) rfl ei_u8 rfl rfl rfl (news := (l.map B8)) (HM.old hr) (qgd _) (by omega) (by omega) rfl (by decide) ?_
 clear HF HM; intro a w16 A16 c16 HF HM hc16
 refine fp HF 1 6 [(5, .slice A16 (0 + n) c16)] fun a HF => ?_
 refine qb rfl (wp_seq (qa ?_))
 refine fp HF 3 0 [(19, vB (IntKind.u8.wrap (qu l : Int))), (17, .slice A16 (0 + n) c16)] fun a HF => ?_
 replace HF := HF.sp 19 (vB ((qu l) % 256 : Nat)) rfl (qdj (qu l))
 refine fp HF 2 3 [(21, vW (Int.fdiv (qu l : Int) (2 ^ (min (8 : Int).toNat (IntKind.u32).bits))))] fun a HF => ?_
 replace HF := HF.sp 21 (vW ((qu l) / 256 : Nat)) rfl (qbh .u32 (qu l) (j := 8) (q := 256) rfl rfl)
 refine fp HF 1 5 [(22, vB (IntKind.u8.wrap (((qu l) / 256 : Nat) : Int)))] fun a HF => ?_
 replace HF := HF.sp 22 (vB (((qu l) / 256) % 256 : Nat)) rfl (qdj ((qu l) / 256))
 refine fp HF 2 6 [(24, vW (Int.fdiv (qu l : Int) (2 ^ (min (16 : Int).toNat (IntKind.u32).bits))))] fun a HF => ?_
 replace HF := HF.sp 24 (vW ((qu l) / 65536 : Nat)) rfl (qbh .u32 (qu l) (j := 16) (q := 65536) rfl rfl)
 refine fp HF 1 8 [(25, vB (IntKind.u8.wrap (((qu l) / 65536 : Nat) : Int)))] fun a HF => ?_
 replace HF := HF.sp 25 (vB (((qu l) / 65536) % 256 : Nat)) rfl (qdj ((qu l) / 65536))
 refine fp HF 2 9 [(27, vW (Int.fdiv (qu l : Int) (2 ^ (min (24 : Int).toNat (IntKind.u32).bits))))] fun a HF => ?_
 replace HF := HF.sp 27 (vW ((qu l) / 16777216 : Nat)) rfl (qbh .u32 (qu l) (j := 24) (q := 16777216) rfl rfl)
 refine fp HF 1 11 [(28, vB (IntKind.u8.wrap (((qu l) / 16777216 : Nat) : Int)))] fun a HF => ?_
 replace HF := HF.sp 28 (vB (((qu l) / 16777216) % 256 : Nat)) rfl (qdj ((qu l) / 16777216))
 refine fo HF 12 rfl rfl ?_
 refine qt HF HM (vs := [(0, vB ((qu l) % 256 : Nat)), (1, vB (((qu l) / 256) % 256 : Nat)), (2, vB (((qu l) / 65536) % 256 : Nat)), (3, vB (((qu l) / 16777216) % 256 : Nat))]) (cs := #[vB ((qu l) % 256 : Nat), vB (((qu l) / 256) % 256 : Nat), vB (((qu l) / 65536) % 256 : Nat), vB (((qu l) / 16777216) % 256 : Nat)]) rfl ei_u8 (by decide) rfl (by kernel_rfl) rfl (by decide) ?_
 clear HF HM; intro a w29 g29 HF HM
 refine fo HF 13 rfl rfl ?_
 refine qw HF HM (i := 1) rfl ei_u8 rfl rfl rfl (news := ((le4 (qu l)).map B8)) (HM.rdBlk (i := 0) (n := 4) (size := 1) rfl rfl) (qgd _) (by omega) (by omega) rfl (by decide) ?_
 clear HF HM; intro a w30 A30 c30 HF HM hc30
 refine fp HF 2 14 [(3, vI 0), (2, .slice A30 (0 + n + 4) c30)] fun a HF => ?_
 refine qb rfl (wp_ret ?_)
 replace HM := HM.picks (fs' := [.row (.slice A30 (0 + n + 4) c30) (0 + n + 4) (([] ++ (l.map B8)) ++ ((le4 (qu l)).map B8)) 5 1]) [1] (by decide) rfl
 exact ret2 rfl HF (.tmp HF rfl) (.tmp HF rfl) (quq hln (HM.own (i := 0) rfl) hc30 HM.below)
theorem ql3 : SI Tryz.prog 82 3 := ⟨by kernel_rfl, by kernel_rfl⟩
theorem qji : EI Tryz.prog 73 82 (.agg #[.string (ByteArray.mk #[]), .int .i64 0, .int .i64 0]) 3 32 := ⟨by kernel_rfl, by kernel_rfl, rfl, by omega⟩
theorem qcz (s : Snm) (hok : s.st.sta.Ok) (hf : StFew s.st) (hc : StCap s.st) (B : Nat) (w : World) (hL : LaidX B w) (hB : B ≤ w.heap.size) (hx : StRd w s.st) :
    Calls Tryz.prog 22 #[.agg s.cells] w (qcn w (chkS s) (outS s)) := by
 refine qg (vs := [.agg s.cells]) Tryz.func22 rfl rfl (by kernel_rfl) (σ0 := [(0, .agg s.cells)]) rfl ?_
 intro a HF
 have HM := Mem.start w
 refine wp_seq (qa ?_)
 refine fo HF 0 rfl rfl ?_
 refine e_box HF HM (cs := s.cells) rfl rfl rfl rfl (by decide) ?_
 clear HF HM; intro a w1 g1 HF HM
 refine fp HF 2 1 [(3, vI 0), (2, .slice none 0 0)] fun a HF => ?_
 refine qb rfl (wp_seq (qa ?_))
 refine fy HF HM 0 rfl rfl rfl (v := .agg s.cells) (Yl.qr rfl rfl qx rfl (fun _ h => qe (h.blk (i := 0) rfl))) fun a HF => ?_
 refine fo HF 1 rfl rfl ?_
 refine e_cl HF [.agg s.cells] rfl rfl (qcs s hok hf hc _ (hx.old HM)) ?_
 rintro _ w8 ⟨⟨A8, c8, rfl, ho, hc8⟩, hbw⟩
 refine ⟨_, rfl, ?_⟩
 replace HM := HM.callRow hbw ho
 clear HF; intro a HF
 refine fp HF 5 2 [(5, vI (chkS s)), (4, .slice A8 ((numsE s).length) c8)] fun a HF => ?_
 refine qb rfl (wp_seq (wp_seq (qa ?_)))
 refine fp HF 2 0 [(12, .bool ((chkS s : Int) != (0 : Int)))] fun a HF => ?_
 refine qb rfl ?_
 rcases HF.tf 12 rfl with ⟨hb12, HF⟩ | ⟨hb12, HF⟩
 ·
  have hd12 := bne_iff_ne.1 hb12
  refine qd HF rfl (wp_seq (qa ?_))
  refine fp HF 3 0 [(3, vI (chkS s)), (2, .slice none 0 0)] fun a HF => ?_
  refine qb rfl (wp_ret ?_)
  exact ret2 rfl HF (.tmp HF rfl) (.tmp HF rfl) (qgt _ rfl (qpn (by omega)) HM.below)
 have hd12 := bne_eq_false_iff_eq.1 hb12
 have hk0 : chkS s = 0 := by omega
 have hsh := qdo hk0
 have hnl := qcr hsh
 rw [← qaq hk0] at hnl
 have hbf := qe2 hsh
 have hpos := qsa s
 rw [← qaq hk0] at hpos
 have hfl := qag (numsE s)
 refine qc HF rfl (wp_skip (wp_seq (qa ?_)))
 refine fo HF 0 rfl rfl ?_
 refine qt HF HM (vs := [(0, vB 113), (1, vB 115), (2, vB 1)]) (cs := #[vB 113, vB 115, vB 1]) rfl ei_u8 (by decide) rfl (by kernel_rfl) rfl (by decide) ?_
 clear HF HM; intro a w14 g14 HF HM
 refine fo HF 1 rfl rfl ?_
 refine qvp HF HM 0 (e := 5) rfl rfl rfl (by kernel_rfl) (by kernel_rfl) rfl (by decide) ?_
 clear HF HM; intro a w15 HF HM
 refine fp HF 1 2 [(16, .slice A8 ((numsE s).length) c8)] fun a HF => ?_
 refine fo HF 3 rfl rfl ?_
 refine e_cl HF [.slice A8 ((numsE s).length) c8] rfl rfl (qoq A8 ((numsE s).length) c8 (numsE s) _ (HM.rd (i := 1) rfl) (by rw [qaq hk0]; exact qls hok hf) (by have := hnl; omega)) ?_
 rintro _ w17 ⟨⟨A17, c17, rfl, ho, hc17⟩, hbw⟩
 refine ⟨_, rfl, ?_⟩
 replace HM := HM.callRow hbw ho
 clear HF; intro a HF
 refine fo HF 4 rfl rfl ?_
 refine zx HF HM (xs := ([113, 115, 1] : List Nat).map B8) (news := ((numsE s).flatMap vbytes).map B8) rfl ei_u8 rfl rfl (HM.rdMark (i := 1) (size := 1) (n := 3) rfl rfl) (HM.rd (i := 0) rfl) (by omega) (by omega) (fun h => by cases h) (by omega) (by omega) rfl (by decide) ?_
 clear HF HM; intro a w18 g18 c18 HF HM hc18
 have hnsomeg180none : 3 + ((numsE s).flatMap vbytes).length = (bodyS s).length := qtg hk0
 replace HM := HM.reRow (i := 0) (ys := (bodyS s).map B8) rfl hnsomeg180none (qgu hk0)
 rw [hnsomeg180none] at hc18
 replace HF := HF.as (t := 18) (u := vS g18 ((bodyS s).length) c18) rfl (by rw [hnsomeg180none])
 refine fo HF 5 rfl rfl ?_
 refine e_cl HF [vS g18 ((bodyS s).length) c18] rfl rfl (qso (some ⟨g18, 0, none⟩) ((bodyS s).length) c18 (bodyS s) B _ (hL.mem HM hB) (HM.le hB) (HM.rd (i := 0) rfl) rfl (by omega) (qhq s)) ?_
 rintro _ w19 ⟨⟨A19, c19, rfl, ho, hc19⟩, hbw⟩
 refine ⟨_, rfl, ?_⟩
 replace HM := HM.callRow hbw ho
 clear HF; intro a HF
 refine fp HF 4 6 [(3, vI 0), (2, .slice A19 ((sealL (bodyS s)).length) c19)] fun a HF => ?_
 refine qb rfl (wp_ret ?_)
 exact ret2 rfl HF (.tmp HF rfl) (.tmp HF rfl) (qgv (er' := 0) hk0.symm (qc6 hk0).symm (HM.own (i := 0) rfl) hc19 HM.below)
theorem qjj (s : Snm) (hok : s.st.sta.Ok) (hf : StFew s.st) (hc : StCap s.st) (B : Nat) (w : World) (hL : LaidX B w) (hB : B ≤ w.heap.size) (hx : StRd w s.st) :
    Calls Tryz.prog 24 #[.agg s.cells] w (Is w (.tuple #[.int .i64 ((outS s).length : Int), .int .i64 (chkS s : Int)])) := by
 refine qg (vs := [.agg s.cells]) Tryz.func24 rfl rfl (by kernel_rfl) (σ0 := [(0, .agg s.cells)]) rfl ?_
 intro a HF
 have HM := Mem.start w
 refine wp_seq (qa ?_)
 refine fo HF 0 rfl rfl ?_
 refine e_box HF HM (cs := s.cells) rfl rfl rfl rfl (by decide) ?_
 clear HF HM; intro a w1 g1 HF HM
 refine fp HF 2 1 [(3, vI 0), (2, vI 0)] fun a HF => ?_
 refine qb rfl (wp_seq (qa ?_))
 refine fy HF HM 0 rfl rfl rfl (v := .agg s.cells) (Yl.qr rfl rfl qx rfl (fun _ h => qe (h.blk (i := 0) rfl))) fun a HF => ?_
 refine fo HF 1 rfl rfl ?_
 refine e_cl HF [.agg s.cells] rfl rfl (qcz s hok hf hc B _ (hL.mem HM hB) (HM.le hB) (hx.old HM)) ?_
 rintro _ w8 ⟨⟨A8, c8, rfl, ho, hc8⟩, hbw⟩
 refine ⟨_, rfl, ?_⟩
 replace HM := HM.callRow hbw ho
 clear HF; intro a HF
 refine fp HF 5 2 [(5, vI (chkS s)), (4, .slice A8 ((outS s).length) c8)] fun a HF => ?_
 refine qb rfl (wp_seq (qa ?_))
 refine fp HF 1 0 [(11, .slice A8 ((outS s).length) c8)] fun a HF => ?_
 refine fy HF HM 1 rfl rfl rfl (Yl.len rfl rfl (by kernel_rfl)) fun a HF => ?_
 refine fp HF 3 2 [(3, vI (chkS s)), (2, vI ((outS s).length : Nat))] fun a HF => ?_
 refine qb rfl (wp_ret ?_)
 exact ret2 rfl HF (.tmp HF rfl) (.tmp HF rfl) (⟨rfl, HM.below⟩)
theorem ql4 (s : Snm) (hok : s.st.sta.Ok) (hf : StFew s.st) (hc : StCap s.st) (B : Nat) (w : World) (hL : LaidX B w) (hB : B ≤ w.heap.size) (hx : StRd w s.st) :
    Calls Tryz.prog 25 #[.agg s.cells] w (Is w (.tuple #[.int .u32 (sumS s : Int), .int .i64 (chkS s : Int)])) := by
 refine qg (vs := [.agg s.cells]) Tryz.func25 rfl rfl (by kernel_rfl) (σ0 := [(0, .agg s.cells)]) rfl ?_
 intro a HF
 have HM := Mem.start w
 refine wp_seq (qa ?_)
 refine fo HF 0 rfl rfl ?_
 refine e_box HF HM (cs := s.cells) rfl rfl rfl rfl (by decide) ?_
 clear HF HM; intro a w1 g1 HF HM
 refine fp HF 2 1 [(3, vI 0), (2, vW 0)] fun a HF => ?_
 refine qb rfl (wp_seq (qa ?_))
 refine fy HF HM 0 rfl rfl rfl (v := .agg s.cells) (Yl.qr rfl rfl qx rfl (fun _ h => qe (h.blk (i := 0) rfl))) fun a HF => ?_
 refine fo HF 1 rfl rfl ?_
 refine e_cl HF [.agg s.cells] rfl rfl (qcz s hok hf hc B _ (hL.mem HM hB) (HM.le hB) (hx.old HM)) ?_
 rintro _ w8 ⟨⟨A8, c8, rfl, ho, hc8⟩, hbw⟩
 refine ⟨_, rfl, ?_⟩
 replace HM := HM.callRow hbw ho
 clear HF; intro a HF
 refine fp HF 5 2 [(5, vI (chkS s)), (4, .slice A8 ((outS s).length) c8)] fun a HF => ?_
 refine qb rfl (wp_seq (wp_seq (qa ?_)))
 refine fp HF 2 0 [(12, .bool ((chkS s : Int) != (0 : Int)))] fun a HF => ?_
 refine qb rfl ?_
 rcases HF.tf 12 rfl with ⟨hb12, HF⟩ | ⟨hb12, HF⟩
 ·
  have hd12 := bne_iff_ne.1 hb12
  refine qd HF rfl (wp_seq (qa ?_))
  refine fp HF 3 0 [(3, vI (chkS s)), (2, vW 0)] fun a HF => ?_
  refine qb rfl (wp_ret ?_)
  exact ret2 rfl HF (.tmp HF rfl) (.tmp HF rfl) (⟨by rw [qpp (by omega)]; rfl, HM.below⟩)
 have hd12 := bne_eq_false_iff_eq.1 hb12
 have hk0 : chkS s = 0 := by omega
 have hsh := qdo hk0
 have hbf := qe2 hsh
 have hol := qpo hk0
 refine qc HF rfl (wp_skip (wp_seq (qa ?_)))
 refine fp HF 2 0 [(15, .slice A8 ((outS s).length) c8), (14, .slice A8 ((outS s).length) c8)] fun a HF => ?_
 refine fy HF HM 2 rfl rfl rfl (Yl.len rfl rfl (by kernel_rfl)) fun a HF => ?_
 refine fp HF 1 3 [(17, vI (IntKind.i64.wrap ((((outS s).length : Nat) : Int) - 4)))] fun a HF => ?_
 replace HF := HF.sp 17 (vI ((outS s).length - 4 : Nat)) rfl (qi (by omega) (by omega))
 refine fy HF HM 4 rfl rfl rfl (v := .slice A8 ((outS s).length - 4) c8) (Yl.qbx ei_u8 (j := (outS s).length - 4) rfl rfl rfl (by omega)) fun a HF => ?_
 refine fo HF 5 rfl rfl ?_
 refine e_is HF HM [.slice A8 ((outS s).length - 4) c8] (vW (qu (bodyS s))) rfl rfl (qcy A8 ((outS s).length - 4) c8 (bodyS s) B _ (hL.mem HM hB) (HM.le hB) (qvx hk0 (HM.rd (i := 0) rfl)) (by omega) (by omega) (qhq s)) fun w19 hbw HM a HF => ?_
 refine fp HF 2 6 [(3, vI 0), (2, vW (qu (bodyS s)))] fun a HF => ?_
 refine qb rfl (wp_ret ?_)
 exact ret2 rfl HF (.tmp HF rfl) (.tmp HF rfl) (⟨by rw [qkf hk0, hk0]; rfl, HM.below⟩)
theorem qdt (s : Snm) (hok : s.st.sta.Ok) (hf : StFew s.st) (hc : StCap s.st) (w : World) (hx : StRd w s.st) :
    Calls Tryz.prog 27 #[.agg s.cells] w (qec 82 w (chkS s) (secsE s)) := by
 refine qb7 (vs := [.agg s.cells]) Tryz.func27 rfl rfl (by kernel_rfl) (σ0 := [(0, .agg s.cells)]) rfl ?_
 intro a HF
 have HM := Mem.start w
 refine wp_seq (qa ?_)
 refine fo HF 0 rfl rfl ?_
 refine e_box HF HM (cs := s.cells) rfl rfl rfl rfl (by decide) ?_
 clear HF HM; intro a w1 g1 HF HM
 refine fp HF 2 1 [(3, vI 0), (2, .slice none 0 0)] fun a HF => ?_
 refine qb rfl (wp_seq (wp_seq (qa ?_)))
 refine fy HF HM 0 rfl rfl rfl (v := .agg s.cells) (Yl.qr rfl rfl qx rfl (fun _ h => qe (h.blk (i := 0) rfl))) fun a HF => ?_
 refine fo HF 1 rfl rfl ?_
 refine e_is HF HM [.agg s.cells] (vI (chkS s)) rfl rfl (qbu s hok hf hc _ (hx.old HM)) fun w11 hbw HM a HF => ?_
 refine fp HF 1 2 [(4, vI (chkS s))] fun a HF => ?_
 refine qb rfl (wp_seq (qa ?_))
 refine fp HF 2 0 [(13, .bool ((chkS s : Int) != (0 : Int)))] fun a HF => ?_
 refine qb rfl ?_
 rcases HF.tf 13 rfl with ⟨hb13, HF⟩ | ⟨hb13, HF⟩
 ·
  have hd13 := bne_iff_ne.1 hb13
  refine qd HF rfl (wp_seq (qa ?_))
  refine fp HF 3 0 [(3, vI (chkS s)), (2, .slice none 0 0)] fun a HF => ?_
  refine qb rfl (wp_ret ?_)
  refine qs9 ?_
  exact ret2 rfl HF (.tmp HF rfl) (.tmp HF rfl) (qgx _ rfl (qlu (by omega)) HM.below)
 have hd13 := bne_eq_false_iff_eq.1 hb13
 have hk0 : chkS s = 0 := by omega
 have hsh := qdo hk0
 have hal := @qpq s hsh
 have hal7 := hal (i := 7) (by omega)
 refine qc HF rfl (wp_skip (wp_seq (qa ?_)))
 refine fy HF HM 0 rfl rfl rfl (v := .agg #[.string (ByteArray.mk #[104, 101, 97, 100]), vI 0, vI 3]) (Yl.build (vs := [(0, .string (ByteArray.mk #[104, 101, 97, 100])), (1, vI 0), (2, vI 3)]) rfl (by kernel_rfl) (by kernel_rfl)) fun a HF => ?_
 refine fo HF 1 rfl rfl ?_
 refine qt HF HM (vs := [(0, .agg #[.string (ByteArray.mk #[104, 101, 97, 100]), vI 0, vI 3])]) (cs := #[.string (ByteArray.mk #[104, 101, 97, 100]), vI 0, vI 3]) rfl qji (by decide) rfl (by kernel_rfl) rfl (by decide) ?_
 clear HF HM; intro a w16 g16 HF HM
 refine fo HF 2 rfl rfl ?_
 refine qs HF HM (cs := #[.slice none 0 0]) rfl (by kernel_rfl) rfl (by decide) ?_
 clear HF HM; intro a w5 g5 HF HM
 refine fo HF 3 rfl rfl ?_
 refine q4 HF HM (i := 0) rfl rfl rfl rfl (by kernel_rfl) rfl rfl (by simp) ?_
 clear HM; intro w4_3 HM
 refine qb rfl ?_
 replace HM := (HM.blkRow (i := 1) (n := 1) (size := 3) rfl rfl (by decide)).asRow (i := 1) (ys := [qfq].flatMap secL) rfl (rfl)
 refine wp_seq (qa ?_)
 refine fo HF 0 rfl rfl ?_
 refine qs HF HM (cs := #[vI 0]) rfl (by kernel_rfl) rfl (by decide) ?_
 clear HF HM; intro a w6 g6 HF HM
 refine fo HF 1 rfl rfl ?_
 refine q4 HF HM (i := 0) rfl rfl rfl rfl (by kernel_rfl) rfl rfl (by simp) ?_
 clear HM; intro w5_1 HM
 refine qb rfl (wp_seq (wp_seq (qa ?_)))
 refine fy HF HM 0 rfl rfl rfl (v := .agg s.cells) (Yl.qr rfl rfl qx rfl (fun _ h => qe (h.blk (i := 3) rfl))) fun a HF => ?_
 refine fo HF 1 rfl rfl ?_
 refine e_cl HF [.agg s.cells] rfl rfl (qjh s _) ?_
 rintro _ w18 ⟨gv, gp, rfl, hm⟩
 refine ⟨_, rfl, ?_⟩
 replace HM := HM.join hm
 clear HF; intro a HF
 refine qb rfl (wp_block ?_)
 refine qox HF HM (fun F => ∃ (q : List Sec) (Ao : Option Addr) (co : Nat), (q = [qfq] ++ upF 7 (z4 s)) ∧ (q.length = 7 + 1) ∧ (q.length ≤ co) ∧ F = [.blk g6 #[vI (atS s 7)] 3, .blk g5 #[.slice Ao q.length co] 73, .row (.slice Ao q.length co) q.length (q.flatMap secL) 82 3, .blk g1 s.cells 32]) (fun _ _ => False) rfl (by kernel_rfl) ?_ ?_ (fun _ _ _ _ _ h => h.elim)
 ·
  clear HF HM; intro lp B rec w1 hrec HM
  have hy : qh1 Tryz.prog w lp s (fun i F => ∃ (q : List Sec) (Ao : Option Addr) (co : Nat), (q = [qfq] ++ upF i (z4 s)) ∧ (q.length = i + 1) ∧ (q.length ≤ co) ∧ F = (.obj lp (.loop (rec .ready none)) :: .obj B (.deferred (some [])) :: [.blk g6 #[vI (atS s i)] 3, .blk g5 #[.slice Ao q.length co] 73, .row (.slice Ao q.length co) q.length (q.flatMap secL) 82 3, .blk g1 s.cells 32])) := by
   rintro i F fr w3 Ar cr ⟨q, Ao, co, hq, hql, hco, rfl⟩ hi hcr HM
   replace HM := HM.picksT (fs' := (.obj lp (.loop (rec .ready none)) :: .row (.slice Ar ((secN s i).length) cr) ((secN s i).length) ((secN s i).map U64) 22 1 :: .obj B (.deferred (some [])) :: .blk g6 #[vI (atS s i)] 3 :: .blk g5 #[.slice Ao q.length co] 73 :: .row (.slice Ao q.length co) q.length (q.flatMap secL) 82 3 :: .blk g1 s.cells 32 :: fr)) 7 [1, 0, 2, 3, 4, 5, 6] (by decide) (by decide) rfl
   refine qem (v1 := .string (qaj i)) (v2 := .slice Ar ((secN s i).length) cr) hrec HM (by decide) (by decide) fun a HF => ?_
   refine wpIn_seq ?_
   refine z7 ?_
   refine fp HF 1 0 [(7, .string (qaj i))] fun a HF => ?_
   refine qb rfl ?_
   refine z7 ?_
   refine fp HF 1 0 [(8, .slice Ar ((secN s i).length) cr)] fun a HF => ?_
   refine qb rfl ?_
   have hsl := qhp hsh hi
   have hal1 := hal (i := i) (by omega)
   have hal2 := hal (i := i + 1) (by omega)
   have hsu := qhl s i
   refine ⟨(.row (.slice Ar ((secN s i).length) cr) ((secN s i).length) ((secN s i).map U64) 22 1 :: .obj B (.deferred (some [])) :: .blk g6 #[vI (atS s i)] 3 :: .blk g5 #[.slice Ao q.length co] 73 :: .row (.slice Ao q.length co) q.length (q.flatMap secL) 82 3 :: .blk g1 s.cells 32 :: fr), HM.picksT (fs' := (.obj lp (.loop (rec .ready none)) :: .row (.slice Ar ((secN s i).length) cr) ((secN s i).length) ((secN s i).map U64) 22 1 :: .obj B (.deferred (some [])) :: .blk g6 #[vI (atS s i)] 3 :: .blk g5 #[.slice Ao q.length co] 73 :: .row (.slice Ao q.length co) q.length (q.flatMap secL) 82 3 :: .blk g1 s.cells 32 :: fr)) 7 [0, 1, 2, 3, 4, 5, 6] (by decide) (by decide) rfl, fun w4 HM => ?_⟩
   refine wpIn_block ?_
   refine wpIn_seq ?_
   refine qow HM (.obj lp (.loop (rec .busy none)) :: .row (.slice Ar ((secN s i).length) cr) ((secN s i).length) ((secN s i).map U64) 22 1 :: .obj B (.deferred (some [])) :: .blk g6 #[vI (atS s i)] 3 :: .blk g5 #[.slice Ao q.length co] 73 :: .row (.slice Ao q.length co) q.length (q.flatMap secL) 82 3 :: .blk g1 s.cells 32 :: fr) 7 [0, 1, 2, 3, 4, 5, 6] [] fun HM HS => ?_
   refine ap HF (fun _ => HS) [1] #[false, true, false, false, false, false] [(22, .slice Ar ((secN s i).length) cr)] fun a HF => ?_
   refine ay HF HS 0 rfl rfl rfl (Yl.qf rfl rfl (by kernel_rfl) (fun _ h => h.cell (i := 3) rfl rfl)) fun a HF => ?_
   refine qm [2] (by kernel_rfl) rfl ?_
   refine all_cons ?_ all_nil
   refine qk HF (i := 2) rfl rfl ?_
   refine e_cl HF [.slice Ar ((secN s i).length) cr] rfl rfl (qoq Ar ((secN s i).length) cr (secN s i) _ (HM.rd (i := 1) rfl) (qke hok hf i) (by have := hsl; omega)) ?_
   rintro _ w23 ⟨⟨A23, c23, rfl, ho, hc23⟩, hbw⟩
   refine ⟨_, rfl, ?_⟩
   replace HM := HM.callRow hbw ho
   clear HF; intro a HF
   refine keepS (HM.picksT 8 [1, 2, 3, 4, 5, 6, 7] (by decide) (by decide) rfl) (fun HS => ?_)
   refine ay HF HS 3 rfl rfl rfl (Yl.len rfl rfl (by kernel_rfl)) fun a HF => ?_
   refine q3 HF (fun _ => HS) (i := 4) rfl rfl (d := 25) rfl (by decide) (by kernel_rfl) (fun _ _ _ h => h) (v := vI (IntKind.i64.wrap ((atS s i : Int) + ((((secN s i).flatMap vbytes).length : Nat) : Int)))) (fun _ => Yl.pure (by kernel_rfl)) fun a HF => ?_
   replace HF := HF.sp 25 (vI (atS s (i + 1))) rfl (qi (by rw [qhl]; omega) (by omega))
   refine ap HF (fun _ => HS) [5] #[true, true, true, true, true, true] [(9, vI (atS s (i + 1)))] fun a HF => ?_
   refine qq (by kernel_rfl) ?_
   refine wpIn_seq ?_
   refine z7 ?_
   refine fy HF HM 0 rfl rfl rfl (Yl.qf rfl rfl (by kernel_rfl) (fun _ h => h.cell (i := 5) rfl rfl)) fun a HF => ?_
   refine fp HF 1 1 [(27, .string (qaj i))] fun a HF => ?_
   refine fy HF HM 2 rfl rfl rfl (Yl.qf rfl rfl (by kernel_rfl) (fun _ h => h.cell (i := 4) rfl rfl)) fun a HF => ?_
   refine fp HF 1 3 [(29, vI (atS s (i + 1)))] fun a HF => ?_
   refine fy HF HM 4 rfl rfl rfl (v := .agg #[.string (qaj i), vI (atS s i), vI (atS s (i + 1))]) (Yl.build (vs := [(0, .string (qaj i)), (1, vI (atS s i)), (2, vI (atS s (i + 1)))]) rfl (by kernel_rfl) (by kernel_rfl)) fun a HF => ?_
   refine fo HF 5 rfl rfl ?_
   refine qt HF HM (vs := [(0, .agg #[.string (qaj i), vI (atS s i), vI (atS s (i + 1))])]) (cs := #[.string (qaj i), vI (atS s i), vI (atS s (i + 1))]) rfl qji (by decide) rfl (by kernel_rfl) rfl (by decide) ?_
   clear HF HM; intro a w31 g31 HF HM
   refine fo HF 6 rfl rfl ?_
   refine qw HF HM (i := 7) rfl qji rfl rfl rfl (news := ((z4 s i).flatMap secL)) (HM.rdBlk (i := 0) (n := 1) (size := 3) rfl rfl) (qfp _) (by omega) (by omega) rfl (by decide) ?_
   clear HF HM; intro a w32 A32 c32 HF HM hc32
   refine fo HF 7 rfl rfl ?_
   refine q4 HF HM (i := 6) rfl rfl rfl rfl (by kernel_rfl) rfl rfl (by simp) ?_
   clear HM; intro w10_7 HM
   refine qb rfl ?_
   have hnA32 : q.length + 1 = (q ++ (z4 s i)).length := zd rfl
   replace HM := HM.reRow (i := 7) (ys := (q ++ (z4 s i)).flatMap secL) rfl hnA32 (List.flatMap_append.symm)
   rw [hnA32] at hc32
   replace HF := HF.as (t := 32) (u := .slice A32 ((q ++ (z4 s i)).length) c32) rfl (by rw [hnA32])
   rw [hnA32] at HM
   refine z7 ?_
   refine fp HF 1 0 [(33, vI (atS s (i + 1)))] fun a HF => ?_
   refine fo HF 1 rfl rfl ?_
   refine q4 HF HM (i := 5) rfl rfl rfl rfl (by kernel_rfl) rfl rfl (by simp) ?_
   clear HM; intro w11_1 HM
   refine qb rfl ?_
   refine ⟨(.obj B (.deferred (some [])) :: .blk g6 #[vI (atS s (i + 1))] 3 :: .blk g5 #[.slice A32 ((q ++ (z4 s i)).length) c32] 73 :: .row (.slice A32 ((q ++ (z4 s i)).length) c32) ((q ++ (z4 s i)).length) ((q ++ (z4 s i)).flatMap secL) 82 3 :: .blk g1 s.cells 32 :: fr), HM.picksT (fs' := (.obj lp (.loop (rec .busy none)) :: .obj B (.deferred (some [])) :: .blk g6 #[vI (atS s (i + 1))] 3 :: .blk g5 #[.slice A32 ((q ++ (z4 s i)).length) c32] 73 :: .row (.slice A32 ((q ++ (z4 s i)).length) c32) ((q ++ (z4 s i)).length) ((q ++ (z4 s i)).flatMap secL) 82 3 :: .blk g1 s.cells 32 :: fr)) 9 [2, 4, 5, 6, 7, 8] (by decide) (by decide) rfl, fun w5 HM => ?_⟩
   exact ⟨(.obj lp (.loop (rec .ready none)) :: .obj B (.deferred (some [])) :: .blk g6 #[vI (atS s (i + 1))] 3 :: .blk g5 #[.slice A32 ((q ++ (z4 s i)).length) c32] 73 :: .row (.slice A32 ((q ++ (z4 s i)).length) c32) ((q ++ (z4 s i)).length) ((q ++ (z4 s i)).flatMap secL) 82 3 :: .blk g1 s.cells 32 :: []), HM, rfl, ⟨(q ++ (z4 s i)), A32, c32, by rw [hq, qv, List.append_assoc], by rw [List.length_append, hql]; rfl, hc32, rfl⟩⟩
  refine (qg1 w w1 gv gp lp s hok hf hx hc hsh _ _ hy ⟨[qfq], (some ⟨g16, 0, none⟩), 1, rfl, rfl, Nat.le_refl _, rfl⟩ (HM.picks [2, 3, 0, 1, 4, 5, 6, 7] (by decide) rfl)).mono ?_
  rintro r w2 ⟨v, rfl, F2, HM2, ⟨q, Ao, co, hq, hql, hco, rfl⟩⟩
  exact ⟨v, rfl, .inl ⟨_, ⟨q, Ao, co, hq, hql, hco, rfl⟩, HM2⟩⟩
 clear HF HM; rintro B a w6 _ ⟨q, Ao, co, hq, hql, hco, rfl⟩ HF HM
 refine wp_seq (qa ?_)
 refine fy HF HM 0 rfl rfl rfl (Yl.qf rfl rfl (by kernel_rfl) (fun _ h => h.cell (i := 2) rfl rfl)) fun a HF => ?_
 refine fy HF HM 1 rfl rfl rfl (Yl.qf rfl rfl (by kernel_rfl) (fun _ h => h.cell (i := 1) rfl rfl)) fun a HF => ?_
 refine fy HF HM 2 rfl rfl rfl (Yl.qf rfl rfl (by kernel_rfl) (fun _ h => h.cell (i := 1) rfl rfl)) fun a HF => ?_
 refine fp HF 1 3 [(37, vI (IntKind.i64.wrap ((atS s 7 : Int) + 4)))] fun a HF => ?_
 replace HF := HF.sp 37 (vI (atS s 7 + 4 : Nat)) rfl (qi (by omega) (by omega))
 refine fy HF HM 4 rfl rfl rfl (v := .agg #[.string (ByteArray.mk #[115, 117, 109]), vI (atS s 7), vI (atS s 7 + 4 : Nat)]) (Yl.build (vs := [(0, .string (ByteArray.mk #[115, 117, 109])), (1, vI (atS s 7)), (2, vI (atS s 7 + 4 : Nat))]) rfl (by kernel_rfl) (by kernel_rfl)) fun a HF => ?_
 refine fo HF 5 rfl rfl ?_
 refine qt HF HM (vs := [(0, .agg #[.string (ByteArray.mk #[115, 117, 109]), vI (atS s 7), vI (atS s 7 + 4 : Nat)])]) (cs := #[.string (ByteArray.mk #[115, 117, 109]), vI (atS s 7), vI (atS s 7 + 4 : Nat)]) rfl qji (by decide) rfl (by kernel_rfl) rfl (by decide) ?_
 clear HF HM; intro a w39 g39 HF HM
 refine fo HF 6 rfl rfl ?_
 refine qw HF HM (i := 4) rfl qji rfl rfl rfl (news := ([qer s].flatMap secL)) (HM.rdBlk (i := 0) (n := 1) (size := 3) rfl rfl) (qfp _) (by omega) (by omega) rfl (by decide) ?_
 clear HF HM; intro a w40 A40 c40 HF HM hc40
 refine fp HF 2 7 [(3, vI 0), (2, .slice A40 (q.length + 1) c40)] fun a HF => ?_
 refine qb rfl ?_
 have hnA40 : q.length + 1 = (q ++ [qer s]).length := zd rfl
 replace HM := HM.reRow (i := 4) (ys := (q ++ [qer s]).flatMap secL) rfl hnA40 (List.flatMap_append.symm)
 rw [hnA40] at hc40
 replace HF := HF.as (t := 2) (u := .slice A40 ((q ++ [qer s]).length) c40) rfl (by rw [hnA40])
 replace HF := HF.as (t := 40) (u := .slice A40 ((q ++ [qer s]).length) c40) rfl (by rw [hnA40])
 refine wp_ret ?_
 refine qj1 HF HM (i := 1) rfl fun a w7 HF HM => ?_
 exact ret2 rfl HF (.tmp HF rfl) (.tmp HF rfl) (qgw (er' := 0) hk0.symm (by rw [qhs hk0, qdp, hq]) (HM.own (i := 4) rfl) hc40 HM.below)
theorem qno {l : List Nat} {n : Nat} (hln : l.length = n) (h : 4 ≤ n) : (((qu (l.take (n - 4)) : Nat) : Int) == ((l.getD (n - 4) 0 + l.getD (n - 4 + 1) 0 * 256 + l.getD (n - 4 + 2) 0 * 65536 + l.getD (n - 4 + 3) 0 * 16777216 : Nat) : Int)) = qc5 l := by
 subst hln
 have hd : ∀ i, (l.drop (l.length - 4)).getD i 0 = l.getD (l.length - 4 + i) 0 := fun i => by rw [List.getD_eq_getElem?_getD, List.getElem?_drop, ← List.getD_eq_getElem?_getD]
 unfold qc5 num4
 rw [hd, hd, hd, hd, Bool.eq_iff_iff, beq_iff_eq, decide_eq_true_eq]
 simp only [Nat.add_zero]
 constructor
 ·intro h1; exact ⟨h, by omega⟩
 ·intro h1; have := h1.2; omega
theorem qjs {l : List Nat} {n : Nat} (hln : l.length = n) (h : n < 4) : qc5 l = false := by unfold qc5; rw [decide_eq_false]; omega
theorem qnp (A : Option Addr) (n cp : Nat) (l : List Nat) (B : Nat) (w : World) (hL : LaidX B w) (hB : B ≤ w.heap.size) (hr : Rd w w.heap.size 1 A n (l.map B8)) (hc : n ≤ cp) (hln : l.length = n) (hn : n ≤ 140737488355328) (hl : ∀ b ∈ l, b < 256) :
    Calls Tryz.prog 34 #[.slice A n cp] w (Is w (.bool (qc5 l))) := by
 refine qg (vs := [.slice A n cp]) Tryz.func34 rfl rfl (by kernel_rfl) (σ0 := [(0, .slice A n cp)]) rfl ?_
 intro a HF
 have HM := Mem.start w
 refine wp_seq (qa ?_)
 refine fp HF 1 0 [(2, .bool false)] fun a HF => ?_
 refine qb rfl (wp_seq (qa ?_))
 refine fp HF 1 0 [(4, .slice A n cp)] fun a HF => ?_
 refine fy HF HM 1 rfl rfl rfl (Yl.len rfl rfl (by kernel_rfl)) fun a HF => ?_
 refine fp HF 1 2 [(6, vI (IntKind.i64.wrap ((n : Int) - 4)))] fun a HF => ?_
 replace HF := HF.sp 6 (vI ((n : Int) - 4)) rfl (qin ⟨by omega, by omega⟩)
 refine fp HF 1 3 [(3, vI ((n : Int) - 4))] fun a HF => ?_
 refine qb rfl (wp_seq (wp_seq (qa ?_)))
 refine fp HF 2 0 [(8, .bool (decide (((n : Int) - 4 : Int) < (0 : Int))))] fun a HF => ?_
 refine qb rfl ?_
 rcases HF.tf 8 rfl with ⟨hb8, HF⟩ | ⟨hb8, HF⟩
 ·
  have hd8 := of_decide_eq_true hb8
  refine qd HF rfl (wp_seq (qa ?_))
  refine fp HF 1 0 [(2, .bool false)] fun a HF => ?_
  refine qb rfl (wp_ret ?_)
  exact ret1 rfl HF (.tmp HF rfl) (⟨by rw [qjs hln (by omega)], HM.below⟩)
 have hd8 := of_decide_eq_false hb8
 replace HF := HF.as (t := 3) (u := .int .i64 ((n - 4 : Nat) : Int)) rfl (by congr 1; omega)
 refine qc HF rfl (wp_skip (wp_seq ?_))
 refine zc HM [] [] [] fun HM HS => ?_
 refine ap HF (fun _ => HS) [0, 1, 4, 5, 9, 10, 17, 18, 25, 26] #[true, true, false, false, true, true, false, false, false, true, true, false, false, false, false, false, false, true, true, false, false, false, false, false, false, true, true, false, false, false, false, false, false, false, false] [(35, vI (n - 4 : Nat)), (34, .slice A n cp), (27, vI (n - 4 : Nat)), (26, .slice A n cp), (19, vI (n - 4 : Nat)), (18, .slice A n cp), (14, vI (n - 4 : Nat)), (13, .slice A n cp), (10, vI (n - 4 : Nat)), (9, .slice A n cp)] fun a HF => ?_
 refine ay HF HS 2 rfl rfl rfl (v := .slice A (n - 4) cp) (Yl.qbx ei_u8 (j := n - 4) rfl rfl rfl (by omega)) fun a HF => ?_
 obtain ⟨gA, oA, rfl, _⟩ := hr.qp (Nat.lt_of_le_of_lt (Nat.zero_le _) (show n - 4 < n from by omega)) (by decide)
 refine ay HF HS 6 rfl rfl rfl (v := vP gA (oA + (n - 4) * 1)) (Yl.ix gA oA (n - 4) 1 rfl rfl rfl) fun a HF => ?_
 have hx40 := getD_lt hl (k := (n - 4)) (by first | omega | (simp; omega))
 refine ay HF HS 7 rfl rfl rfl (v := vB (l.getD (n - 4) 0)) (Yl.qf rfl rfl (by kernel_rfl) (fun _ h => (h.old hr).q7 (k := (n - 4)) (qz (F := B8) (k := (n - 4)) (x := (l.getD (n - 4) 0)) ((getD_at 0 (k := (n - 4)) (by first | omega | (simp; omega))))))) fun a HF => ?_
 refine q3 HF (fun _ => HS) (i := 8) rfl rfl (d := 17) rfl (by decide) (by kernel_rfl) (fun _ _ _ h => h) (v := vW (IntKind.u32.wrap ((l.getD (n - 4) 0) : Int))) (fun _ => Yl.pure (by kernel_rfl)) fun a HF => ?_
 replace HF := HF.sp 17 (vW (l.getD (n - 4) 0)) rfl (zq rfl (by omega))
 refine q3 HF (fun _ => HS) (i := 11) rfl rfl (d := 20) rfl (by decide) (by kernel_rfl) (fun _ _ _ h => h) (v := vI (IntKind.i64.wrap (((n - 4 : Nat) : Int) + 1))) (fun _ => Yl.pure (by kernel_rfl)) fun a HF => ?_
 replace HF := HF.sp 20 (vI ((n - 4) + 1 : Nat)) rfl (qi (by omega) (by omega))
 refine ay HF HS 12 rfl rfl rfl (v := vP gA (oA + ((n - 4) + 1) * 1)) (Yl.ix gA oA ((n - 4) + 1) 1 rfl rfl rfl) fun a HF => ?_
 have hx47 := getD_lt hl (k := ((n - 4) + 1)) (by first | omega | (simp; omega))
 refine ay HF HS 13 rfl rfl rfl (v := vB (l.getD ((n - 4) + 1) 0)) (Yl.qf rfl rfl (by kernel_rfl) (fun _ h => (h.old hr).q7 (k := ((n - 4) + 1)) (qz (F := B8) (k := ((n - 4) + 1)) (x := (l.getD ((n - 4) + 1) 0)) ((getD_at 0 (k := ((n - 4) + 1)) (by first | omega | (simp; omega))))))) fun a HF => ?_
 refine q3 HF (fun _ => HS) (i := 14) rfl rfl (d := 23) rfl (by decide) (by kernel_rfl) (fun _ _ _ h => h) (v := vW (IntKind.u32.wrap ((l.getD ((n - 4) + 1) 0) : Int))) (fun _ => Yl.pure (by kernel_rfl)) fun a HF => ?_
 replace HF := HF.sp 23 (vW (l.getD ((n - 4) + 1) 0)) rfl (zq rfl (by omega))
 refine q3 HF (fun _ => HS) (i := 15) rfl rfl (d := 24) rfl (by decide) (by kernel_rfl) (fun _ _ _ h => h) (v := vW (IntKind.u32.wrap (((l.getD ((n - 4) + 1) 0) : Int) * 2 ^ (min (8 : Int).toNat (IntKind.u32).bits)))) (fun _ => Yl.pure (by kernel_rfl)) fun a HF => ?_
 replace HF := HF.sp 24 (vW ((l.getD ((n - 4) + 1) 0) * 256 : Nat)) rfl (zq (by rw [show (2 : Int) ^ (min (8 : Int).toNat (IntKind.u32).bits) = 256 from rfl]; omega) (by omega))
 refine q3 HF (fun _ => HS) (i := 16) rfl rfl (d := 25) rfl (by decide) (by kernel_rfl) (fun _ _ _ h => h) (v := vW (IntKind.u32.wrap (BitVec.ofInt (IntKind.u32).bits ((l.getD (n - 4) 0) : Int) ||| BitVec.ofInt (IntKind.u32).bits (((l.getD ((n - 4) + 1) 0) * 256 : Nat) : Int)).toNat)) (fun _ => Yl.pure (by kernel_rfl)) fun a HF => ?_
 replace HF := HF.sp 25 (vW (l.getD (n - 4) 0 + l.getD (n - 4 + 1) 0 * 256 : Nat)) rfl (qhh (m := l.getD (n - 4) 0) (n := l.getD (n - 4 + 1) 0) (j := 8) (p := 256) rfl (by omega) (by omega))
 refine q3 HF (fun _ => HS) (i := 19) rfl rfl (d := 28) rfl (by decide) (by kernel_rfl) (fun _ _ _ h => h) (v := vI (IntKind.i64.wrap (((n - 4 : Nat) : Int) + 2))) (fun _ => Yl.pure (by kernel_rfl)) fun a HF => ?_
 replace HF := HF.sp 28 (vI ((n - 4) + 2 : Nat)) rfl (qi (by omega) (by omega))
 refine ay HF HS 20 rfl rfl rfl (v := vP gA (oA + ((n - 4) + 2) * 1)) (Yl.ix gA oA ((n - 4) + 2) 1 rfl rfl rfl) fun a HF => ?_
 have hx58 := getD_lt hl (k := ((n - 4) + 2)) (by first | omega | (simp; omega))
 refine ay HF HS 21 rfl rfl rfl (v := vB (l.getD ((n - 4) + 2) 0)) (Yl.qf rfl rfl (by kernel_rfl) (fun _ h => (h.old hr).q7 (k := ((n - 4) + 2)) (qz (F := B8) (k := ((n - 4) + 2)) (x := (l.getD ((n - 4) + 2) 0)) ((getD_at 0 (k := ((n - 4) + 2)) (by first | omega | (simp; omega))))))) fun a HF => ?_
 refine q3 HF (fun _ => HS) (i := 22) rfl rfl (d := 31) rfl (by decide) (by kernel_rfl) (fun _ _ _ h => h) (v := vW (IntKind.u32.wrap ((l.getD ((n - 4) + 2) 0) : Int))) (fun _ => Yl.pure (by kernel_rfl)) fun a HF => ?_
 replace HF := HF.sp 31 (vW (l.getD ((n - 4) + 2) 0)) rfl (zq rfl (by omega))
 refine q3 HF (fun _ => HS) (i := 23) rfl rfl (d := 32) rfl (by decide) (by kernel_rfl) (fun _ _ _ h => h) (v := vW (IntKind.u32.wrap (((l.getD ((n - 4) + 2) 0) : Int) * 2 ^ (min (16 : Int).toNat (IntKind.u32).bits)))) (fun _ => Yl.pure (by kernel_rfl)) fun a HF => ?_
 replace HF := HF.sp 32 (vW ((l.getD ((n - 4) + 2) 0) * 65536 : Nat)) rfl (zq (by rw [show (2 : Int) ^ (min (16 : Int).toNat (IntKind.u32).bits) = 65536 from rfl]; omega) (by omega))
 refine q3 HF (fun _ => HS) (i := 24) rfl rfl (d := 33) rfl (by decide) (by kernel_rfl) (fun _ _ _ h => h) (v := vW (IntKind.u32.wrap (BitVec.ofInt (IntKind.u32).bits ((l.getD (n - 4) 0 + l.getD (n - 4 + 1) 0 * 256 : Nat) : Int) ||| BitVec.ofInt (IntKind.u32).bits (((l.getD ((n - 4) + 2) 0) * 65536 : Nat) : Int)).toNat)) (fun _ => Yl.pure (by kernel_rfl)) fun a HF => ?_
 replace HF := HF.sp 33 (vW (l.getD (n - 4) 0 + l.getD (n - 4 + 1) 0 * 256 + l.getD (n - 4 + 2) 0 * 65536 : Nat)) rfl (qhh (m := l.getD (n - 4) 0 + l.getD (n - 4 + 1) 0 * 256) (n := l.getD (n - 4 + 2) 0) (j := 16) (p := 65536) rfl (by omega) (by omega))
 refine q3 HF (fun _ => HS) (i := 27) rfl rfl (d := 36) rfl (by decide) (by kernel_rfl) (fun _ _ _ h => h) (v := vI (IntKind.i64.wrap (((n - 4 : Nat) : Int) + 3))) (fun _ => Yl.pure (by kernel_rfl)) fun a HF => ?_
 replace HF := HF.sp 36 (vI ((n - 4) + 3 : Nat)) rfl (qi (by omega) (by omega))
 refine ay HF HS 28 rfl rfl rfl (v := vP gA (oA + ((n - 4) + 3) * 1)) (Yl.ix gA oA ((n - 4) + 3) 1 rfl rfl rfl) fun a HF => ?_
 have hx69 := getD_lt hl (k := ((n - 4) + 3)) (by first | omega | (simp; omega))
 refine ay HF HS 29 rfl rfl rfl (v := vB (l.getD ((n - 4) + 3) 0)) (Yl.qf rfl rfl (by kernel_rfl) (fun _ h => (h.old hr).q7 (k := ((n - 4) + 3)) (qz (F := B8) (k := ((n - 4) + 3)) (x := (l.getD ((n - 4) + 3) 0)) ((getD_at 0 (k := ((n - 4) + 3)) (by first | omega | (simp; omega))))))) fun a HF => ?_
 refine q3 HF (fun _ => HS) (i := 30) rfl rfl (d := 39) rfl (by decide) (by kernel_rfl) (fun _ _ _ h => h) (v := vW (IntKind.u32.wrap ((l.getD ((n - 4) + 3) 0) : Int))) (fun _ => Yl.pure (by kernel_rfl)) fun a HF => ?_
 replace HF := HF.sp 39 (vW (l.getD ((n - 4) + 3) 0)) rfl (zq rfl (by omega))
 refine q3 HF (fun _ => HS) (i := 31) rfl rfl (d := 40) rfl (by decide) (by kernel_rfl) (fun _ _ _ h => h) (v := vW (IntKind.u32.wrap (((l.getD ((n - 4) + 3) 0) : Int) * 2 ^ (min (24 : Int).toNat (IntKind.u32).bits)))) (fun _ => Yl.pure (by kernel_rfl)) fun a HF => ?_
 replace HF := HF.sp 40 (vW ((l.getD ((n - 4) + 3) 0) * 16777216 : Nat)) rfl (zq (by rw [show (2 : Int) ^ (min (24 : Int).toNat (IntKind.u32).bits) = 16777216 from rfl]; omega) (by omega))
 refine q3 HF (fun _ => HS) (i := 32) rfl rfl (d := 41) rfl (by decide) (by kernel_rfl) (fun _ _ _ h => h) (v := vW (IntKind.u32.wrap (BitVec.ofInt (IntKind.u32).bits ((l.getD (n - 4) 0 + l.getD (n - 4 + 1) 0 * 256 + l.getD (n - 4 + 2) 0 * 65536 : Nat) : Int) ||| BitVec.ofInt (IntKind.u32).bits (((l.getD ((n - 4) + 3) 0) * 16777216 : Nat) : Int)).toNat)) (fun _ => Yl.pure (by kernel_rfl)) fun a HF => ?_
 replace HF := HF.sp 41 (vW (l.getD (n - 4) 0 + l.getD (n - 4 + 1) 0 * 256 + l.getD (n - 4 + 2) 0 * 65536 + l.getD (n - 4 + 3) 0 * 16777216 : Nat)) rfl (qhh (m := l.getD (n - 4) 0 + l.getD (n - 4 + 1) 0 * 256 + l.getD (n - 4 + 2) 0 * 65536) (n := l.getD (n - 4 + 3) 0) (j := 24) (p := 16777216) rfl (by omega) (by omega))
 refine qm [3] (by kernel_rfl) rfl ?_
 refine all_cons ?_ all_nil
 refine qk HF (i := 3) rfl rfl ?_
 refine e_is HF HM [.slice (some ⟨gA, oA, none⟩) (n - 4) cp] (vW (qu (l.take (n - 4)))) rfl rfl (qcy _ _ _ (l.take (n - 4)) B _ (hL.mem HM hB) (HM.le hB) ((HM.old hr).toB8 (by omega)) (by rw [List.length_take]; omega) (by omega) (qjz hl _)) fun w12 hbw HM a HF => ?_
 refine keepS (HM.picks [] (by decide) rfl) (fun HS => ?_)
 refine ap HF (fun _ => HS) [33, 34] #[true, true, true, true, true, true, true, true, true, true, true, true, true, true, true, true, true, true, true, true, true, true, true, true, true, true, true, true, true, true, true, true, true, true, true] [(2, .bool ((qu (l.take (n - 4)) : Int) == ((l.getD (n - 4) 0 + l.getD (n - 4 + 1) 0 * 256 + l.getD (n - 4 + 2) 0 * 65536 + l.getD (n - 4 + 3) 0 * 16777216 : Nat) : Int)))] fun a HF => ?_
 refine qq (by kernel_rfl) ?_
 replace HF := HF.to [(2, .bool ((qu (l.take (n - 4)) : Int) == ((l.getD (n - 4) 0 + l.getD (n - 4 + 1) 0 * 256 + l.getD (n - 4 + 2) 0 * 65536 + l.getD (n - 4 + 3) 0 * 16777216 : Nat) : Int))), (3, vI (n - 4 : Nat)), (8, .bool false), (0, .slice (some ⟨gA, oA, none⟩) n cp)]
 refine wp_ret ?_
 exact ret1 rfl HF (.tmp HF rfl) (⟨by rw [qno hln (by omega)], HM.below⟩)
def waUp (l : List Nat) (k : Nat) : List Nat := (l.take k).flatMap vbytes
theorem qjn {l : List Nat} {k : Nat} (h : k < l.length) : waUp l (k + 1) = waUp l k ++ vbytes (l.getD k 0) := by
 unfold waUp
 rw [← List.take_append_getElem (by omega : k < l.length), List.flatMap_append, List.getD_eq_getElem?_getD, List.getElem?_eq_getElem h]
 simp
theorem qmg (l : List Nat) (k : Nat) : (waUp l k).length ≤ 10 * k := by
 unfold waUp
 have h := qag (l.take k)
 rw [List.length_take] at h
 omega
theorem qnf (x : Nat) (w : World) (hx : x < 18446744073709551616) : Calls Tryz.prog 91 #[.int .u64 (x : Int)] w (qbi w (vbytes x)) :=
 (qkw x w hx).mono fun e w' ⟨v, h1, h2, h3⟩ => by
  obtain ⟨A, c, rfl, hc⟩ := qil h2
  exact ⟨⟨A, c, h1, h2, hc⟩, h3⟩
theorem qg8 (A : Option Addr) (n c : Nat) (l : List Nat) (w : World) (hr : Rd w w.heap.size 1 A n (l.map U64)) (hln : l.length = n) (hl : ∀ x ∈ l, x < 18446744073709551616) (hn : n ≤ 1000000) :
    Calls Tryz.prog 58 #[.slice A n c] w (qbi w (l.flatMap vbytes)) := by
 refine qg (vs := [.slice A n c]) Tryz.func58 rfl rfl (by kernel_rfl) (σ0 := [(0, .slice A n c)]) rfl ?_
 intro a HF
 have HM := Mem.start w
 refine wp_seq (qa ?_)
 refine fp HF 1 0 [(2, .slice none 0 0)] fun a HF => ?_
 refine qb rfl (wp_seq (qa ?_))
 refine fp HF 1 0 [(3, .slice none 0 0)] fun a HF => ?_
 refine qb rfl ?_
 replace HM := HM.nil 5 1
 refine wp_seq (wp_seq (qa ?_))
 refine fp HF 1 0 [(4, vI 0)] fun a HF => ?_
 refine qb rfl (wp_block ?_)
 refine qo (fun mS aS wS => ∃ (k : Nat) (Ak : Option Addr) (ck : Nat), (k ≤ n) ∧ ((waUp l k).length ≤ ck) ∧ mS = n - k ∧ Fr aS 19 [] [(4, vI k), (3, .slice Ak ((waUp l k).length) ck), (2, .slice none 0 0), (0, .slice A n c)] ∧ Mem w wS [.row (.slice Ak ((waUp l k).length) ck) ((waUp l k).length) ((waUp l k).map B8) 5 1]) (m := n - 0) ⟨0, none, 0, Nat.zero_le _, Nat.le_refl _, rfl, HF.sub (by kernel_rfl), HM.picks [0] (by decide) rfl⟩ ?_
 clear HF HM; rintro mS a w_ ⟨k, Ak, ck, hk, hck, rfl, HF, HM⟩
 refine wp_seq (wp_seq (qa ?_))
 refine fp HF 2 0 [(6, .slice A n c), (5, vI k)] fun a HF => ?_
 refine fy HF HM 2 rfl rfl rfl (Yl.len rfl rfl (by kernel_rfl)) fun a HF => ?_
 refine fp HF 1 3 [(8, .bool (decide ((k : Int) < (n : Int))))] fun a HF => ?_
 refine qb rfl ?_
 rcases HF.tf 8 rfl with ⟨hb8, HF⟩ | ⟨hb8, HF⟩
 ·
  have hd8 := of_decide_eq_true hb8
  have hk8 : k < n := by omega
  refine qd HF rfl (wp_skip (wp_seq (wp_block (qa ?_))))
  refine fp HF 3 0 [(13, vI k), (12, .slice A n c), (11, .slice Ak ((waUp l k).length) ck)] fun a HF => ?_
  obtain ⟨gA, oA, rfl, _⟩ := hr.qp (Nat.lt_of_le_of_lt (Nat.zero_le _) (show k < n from by omega)) (by decide)
  refine fy HF HM 3 rfl rfl rfl (v := vP gA (oA + k * 1)) (Yl.ix gA oA k 1 rfl rfl rfl) fun a HF => ?_
  have hx39 := getD_lt hl (k := k) (by first | omega | (simp; omega))
  refine fy HF HM 4 rfl rfl rfl (v := vQ (l.getD k 0)) (Yl.qf rfl rfl (by kernel_rfl) (fun _ h => (h.old hr).q7 (k := k) (qz (F := U64) (k := k) (x := (l.getD k 0)) ((getD_at 0 (k := k) (by first | omega | (simp; omega))))))) fun a HF => ?_
  refine fo HF 5 rfl rfl ?_
  refine e_cl HF [vQ (l.getD k 0)] rfl rfl (qnf (l.getD k 0) _ (hl _ (q5 0 (by omega)))) ?_
  rintro _ w16 ⟨⟨A16, c16, rfl, ho, hc16⟩, hbw⟩
  refine ⟨_, rfl, ?_⟩
  replace HM := HM.callRow hbw ho
  clear HF; intro a HF
  refine fo HF 6 rfl rfl ?_
  refine qw HF HM (i := 1) rfl ei_u8 rfl rfl rfl (news := ((vbytes (l.getD k 0)).map B8)) (HM.rd (i := 0) rfl) (qgd _) (by have := qmg l k; have := qbz (l.getD k 0); omega) (by have := qmg l k; have := qbz (l.getD k 0); omega) rfl (by decide) ?_
  clear HF HM; intro a w17 A17 c17 HF HM hc17
  refine fp HF 1 7 [(3, .slice A17 (((waUp l k).length) + (((vbytes (l.getD k 0))).length)) c17)] fun a HF => ?_
  refine qb rfl ?_
  have hnA17 : ((waUp l k).length) + (((vbytes (l.getD k 0))).length) = (waUp l (k + 1)).length := by rw [qjn (by omega)]; simp
  replace HM := HM.reRow (i := 1) (ys := (waUp l (k + 1)).map B8) rfl hnA17 (by rw [qjn (by omega)]; simp)
  rw [hnA17] at hc17
  replace HF := HF.as (t := 3) (u := .slice A17 ((waUp l (k + 1)).length) c17) rfl (by rw [hnA17])
  replace HF := HF.as (t := 17) (u := .slice A17 ((waUp l (k + 1)).length) c17) rfl (by rw [hnA17])
  refine qa ?_
  refine fp HF 2 0 [(10, vI (IntKind.i64.wrap ((k : Int) + 1)))] fun a HF => ?_
  replace HF := HF.sp 10 (vI (k + 1 : Nat)) rfl (qi (by omega) (by omega))
  refine fp HF 1 2 [(4, vI (k + 1 : Nat))] fun a HF => ?_
  refine qb rfl ?_
  exact ⟨_, (by omega), k + 1, A17, c17, by omega, hc17, rfl, HF.sub (by kernel_rfl), HM.picks [1] (by decide) rfl⟩
 have hd8 := of_decide_eq_false hb8
 have hkn : k = n := by omega
 have hwa : waUp l k = l.flatMap vbytes := by unfold waUp; rw [List.take_of_length_le (by omega)]
 refine qc HF rfl (wp_exit (wp_seq (qa ?_)))
 refine fp HF 2 0 [(2, .slice Ak ((waUp l k).length) ck)] fun a HF => ?_
 refine qb rfl (wp_ret ?_)
 exact ret1 rfl HF (.tmp HF rfl) (qir (HM.own (i := 0) rfl) hck (by rw [hwa]) hwa HM.below)
theorem qkr {w : World} {base n m c size : Nat} {e : TypeId} {A : Option Addr} {xs : List Value} (h : w.ownsRow base e size (.slice A n c) n xs) (hm : m ≤ n) : w.ownsRow base e size (.slice A m c) m (xs.take (m * size)) := by
 have hms : m * size ≤ n * size := Nat.mul_le_mul_right _ hm
 refine ⟨by rw [List.length_take, h.1]; omega, ?_⟩
 rcases h.2 with ⟨hv, hn⟩ | ⟨g, cap, cur, hv, hb, hg, h1, h2, h3, h4⟩
 ·injection hv with a1 a2 a3
  subst a1; subst a3; subst hn
  have : m = 0 := by omega
  subst this
  exact .inl ⟨rfl, rfl⟩
 ·injection hv with a1 a2 a3
  subst a1; subst a3
  refine .inr ⟨g, c, cur, rfl, hb, hg, by omega, h2, h3, ?_⟩
  rw [← h4, List.take_take]
  congr 1
  omega
section
variable {W w : World} {fs : List Fact}
theorem Mem.cutRow (h : Mem W w fs) {i n m c size : Nat} {e : TypeId} {A : Option Addr} {xs ys : List Value} (hi : fs[i]? = some (.row (.slice A n c) n xs e size)) (hm : m ≤ n) (hy : xs.take (m * size) = ys) : Mem W w (fs.set i (.row (.slice A m c) m ys e size)) := by
 subst hy
 have hb := h.holds _ (List.mem_of_getElem? hi)
 exact h.turn hi h.below (fun _ _ _ => rfl) (qkr hb hm) (fun g' hg' => .inl (by cases A <;> exact hg'))
end
theorem qau : EI Tryz.prog 192 3 (.int .i64 0) 1 8 := ⟨by kernel_rfl, by kernel_rfl, rfl, by omega⟩
def PolIs (w : World) (l : List Nat) (r : Ending) (w' : World) : Prop :=
 (∃ A c, r = .returned (.slice A l.length c) ∧ w'.ownsRow w.heap.size 3 1 (.slice A l.length c) l.length (l.map I64v) ∧ l.length ≤ c) ∧ Below w.heap.size w w'
def DivIs (w : World) (A : Option Addr) (c : Nat) (a b : List Nat) (r : Ending) (w' : World) : Prop :=
 (∃ vq X c', r = .returned (.tuple #[vq, .slice X (divR (a.length + 1) a b).length c']) ∧ (a.length < b.length → X = A ∧ c' = c) ∧ (b.length ≤ a.length → w'.ownsRow w.heap.size 3 1 (.slice X (divR (a.length + 1) a b).length c') (divR (a.length + 1) a b).length ((divR (a.length + 1) a b).map I64v) ∧ (divR (a.length + 1) a b).length ≤ c')) ∧ Below w.heap.size w w'
def P01 (l : List Nat) : Prop := ∀ x ∈ l, x < 2
def Tr (l : List Nat) : Prop := 0 < l.length → l.getD (l.length - 1) 0 ≠ 0
theorem qqq {l : List Nat} (h : P01 l) (k : Nat) : l.getD k 0 < 2 := by
 rw [List.getD_eq_getElem?_getD]
 cases hk : l[k]? with
 | none => simp
 | some x => exact h x (List.mem_of_getElem? hk)
theorem qfv {l : List Nat} {k : Nat} (h : 0 < k) (hk : k ≤ l.length) : l.take k = l.take (k - 1) ++ [l.getD (k - 1) 0] := by
 obtain ⟨j, rfl⟩ : ∃ j, k = j + 1 := ⟨k - 1, by omega⟩
 rw [Nat.add_sub_cancel, List.take_succ_eq_append_getElem (by omega), List.getD_eq_getElem?_getD, List.getElem?_eq_getElem (by omega)]
 rfl
theorem qjk {l : List Nat} {k : Nat} (h : 0 < k) (hk : k ≤ l.length) (h0 : l.getD (k - 1) 0 = 0) (ht : trimL (l.take k) = trimL l) : trimL (l.take (k - 1)) = trimL l := by
 rw [← ht, qfv h hk, h0, qc4]
theorem qdu {l : List Nat} {k : Nat} (hk : k ≤ l.length) (h0 : 0 < k → l.getD (k - 1) 0 ≠ 0) (ht : trimL (l.take k) = trimL l) : trimL l = l.take k := by
 rw [← ht]
 by_cases h : 0 < k
 ·rw [qfv h hk, qgf (h0 h)]
 ·have : k = 0 := by omega
  subst this
  rfl
theorem qh2 (l : List Nat) : trimL l <+: l := by
 have h := List.dropWhile_suffix (l := l.reverse) (· == 0)
 have := List.reverse_prefix.2 h
 rwa [List.reverse_reverse] at this
theorem qqr (l : List Nat) : l.take (trimL l).length = trimL l := (List.prefix_iff_eq_take.1 (qh2 l)).symm
theorem qdv (l : List Nat) : (trimL l).length ≤ l.length := (qh2 l).length_le
theorem qdw (l : List Nat) : (l.map I64v).take ((trimL l).length * 1) = (trimL l).map I64v := by rw [Nat.mul_one, ← List.map_take, qqr]
theorem qqs {l : List Nat} (h : P01 l) : P01 (trimL l) := fun x hx => h x ((qh2 l).sublist.mem hx)
theorem qtp : ∀ (n : Nat) (l : List Nat), l.length = n → Tr (trimL l)
 | 0, l, h => by
  rw [List.length_eq_zero_iff] at h
  subst h
  intro h; simp [trimL] at h
 | n + 1, l, h => by
  have e := qfv (l := l) (k := l.length) (by omega) (by omega)
  rw [List.take_length] at e
  by_cases h0 : l.getD (l.length - 1) 0 = 0
  ·rw [e, h0, qc4]
   exact qtp n _ (by rw [List.length_take]; omega)
  ·rw [e, qgf h0, ← e]
   intro _
   exact h0
theorem qks (l : List Nat) : Tr (trimL l) := qtp _ l rfl
theorem qa1 (f : Nat → Nat) (k : Nat) : (List.range (k + 1)).map f = (List.range k).map f ++ [f k] := by rw [List.range_succ, List.map_append]; rfl
def qbv (p k : Nat) : List Nat := (List.range k).map fun i => p / 2 ^ i % 2
theorem qkt (p k : Nat) : qbv p (k + 1) = qbv p k ++ [p / 2 ^ k % 2] := qa1 _ _
theorem qg4 (p k : Nat) : (qbv p k).length = k := by unfold qbv; rw [List.length_map, List.length_range]
def sumUp (a b : List Nat) (s k : Nat) : List Nat := (List.range k).map (sumAt a b s)
theorem qbd (a b : List Nat) (s k : Nat) : sumUp a b s (k + 1) = sumUp a b s k ++ [sumAt a b s k] := qa1 _ _
theorem qjl (a b : List Nat) (s k : Nat) : (sumUp a b s k).length = k := by unfold sumUp; rw [List.length_map, List.length_range]
theorem qqt (a b : List Nat) (s : Nat) : trimL (sumUp a b s (max a.length (b.length + s))) = sumL a b s := rfl
theorem ql5 {l : List Nat} {k : Nat} (h : l.length ≤ k) : l.getD k 0 = 0 := by rw [List.getD_eq_getElem?_getD, List.getElem?_eq_none h]; rfl
theorem qtq {a b : List Nat} {s k : Nat} (h1 : s ≤ k) (h2 : k - s < b.length) : sumAt a b s k = (a.getD k 0 + b.getD (k - s) 0) % 2 := if_pos ⟨h1, h2⟩
theorem qv9 {a b : List Nat} {s k : Nat} (h1 : s ≤ k) (h2 : k - s < b.length) (h3 : a.length ≤ k) : sumAt a b s k = (0 + b.getD (k - s) 0) % 2 := by rw [qtq h1 h2, ql5 h3]
theorem qqu {a b : List Nat} {s k : Nat} (h : ¬ (s ≤ k ∧ k - s < b.length)) : sumAt a b s k = a.getD k 0 := if_neg h
theorem qtr {a b : List Nat} {s k : Nat} (h : ¬ (s ≤ k ∧ k - s < b.length)) (h3 : a.length ≤ k) : sumAt a b s k = 0 := by rw [qqu h, ql5 h3]
theorem qut {a b : List Nat} (ha : P01 a) (s i : Nat) : sumAt a b s i < 2 := by
 unfold sumAt
 split
 ·omega
 ·exact qqq ha i
theorem sum01 {a b : List Nat} (ha : P01 a) (s : Nat) : P01 (sumL a b s) := by
 unfold sumL
 apply qqs
 intro x hx
 obtain ⟨i, _, rfl⟩ := List.mem_map.1 hx
 exact qut ha s i
theorem sumTr (a b : List Nat) (s : Nat) : Tr (sumL a b s) := qks _
theorem quu (a b : List Nat) (s : Nat) : (sumL a b s).length ≤ max a.length (b.length + s) := by
 unfold sumL
 refine Nat.le_trans (qdv _) ?_
 rw [List.length_map, List.length_range]
 exact Nat.le_refl _
theorem qe4 {a b : List Nat} (ha : P01 a) (hb : P01 b) (hta : Tr a) (htb : Tr b) (h0 : 0 < b.length) (h : b.length ≤ a.length) : (sumL a b (a.length - b.length)).length < a.length := by
 have e : max a.length (b.length + (a.length - b.length)) = (a.length - 1) + 1 := by omega
 have h1 := hta (by omega)
 have h2 := htb h0
 have h3 := qqq ha (a.length - 1)
 have h4 := qqq hb (b.length - 1)
 unfold sumL
 rw [e, qa1]
 have hz : sumAt a b (a.length - b.length) (a.length - 1) = 0 := by
  unfold sumAt
  rw [if_pos ⟨by omega, by omega⟩, show a.length - 1 - (a.length - b.length) = b.length - 1 by omega]
  omega
 rw [hz, qc4]
 refine Nat.lt_of_le_of_lt (qdv _) ?_
 rw [List.length_map, List.length_range]
 omega
theorem ql6 {b : List Nat} (hb : P01 b) (htb : Tr b) (h0 : 0 < b.length) : ∀ (n : Nat) (a : List Nat), a.length = n → P01 a → Tr a → ∀ f g, a.length < f → a.length < g → divR f a b = divR g a b := by
 intro n
 induction n using Nat.strongRecOn with
 | _ n ih =>
  intro a hn ha hta f g hf hg
  obtain ⟨f, rfl⟩ : ∃ j, f = j + 1 := ⟨f - 1, by omega⟩
  obtain ⟨g, rfl⟩ : ∃ j, g = j + 1 := ⟨g - 1, by omega⟩
  rw [divR, divR]
  split
  ·rename_i h
   have hl := qe4 ha hb hta htb h0 h
   exact ih _ (by omega) _ rfl (sum01 ha _) (sumTr _ _ _) f g (by omega) (by omega)
  ·rfl
theorem ql7 {a0 a b : List Nat} (hb : P01 b) (htb : Tr b) (h0 : 0 < b.length) (ha : P01 a) (hta : Tr a) (h : b.length ≤ a.length) (he : divR (a.length + 1) a b = divR (a0.length + 1) a0 b) :
  divR ((sumL a b (a.length - b.length)).length + 1) (sumL a b (a.length - b.length)) b = divR (a0.length + 1) a0 b := by
 have hl := qe4 ha hb hta htb h0 h
 have e : divR (a.length + 1) a b = divR a.length (sumL a b (a.length - b.length)) b := by rw [divR, if_pos h]
 rw [← he, e]
 exact ql6 hb htb h0 _ _ rfl (sum01 ha _) (sumTr _ _ _) _ _ (by omega) (by omega)
theorem ql8 {a b : List Nat} (h : ¬ b.length ≤ a.length) : divR (a.length + 1) a b = a := by rw [divR, if_neg h]
theorem ql9 (p : Nat) : P01 (qip p) := by
 unfold qip
 apply qqs
 intro x hx
 obtain ⟨i, _, rfl⟩ := List.mem_map.1 hx
 omega
theorem qma (p : Nat) : P01 (bitsOf p) := by
 unfold bitsOf
 apply qqs
 intro x hx
 obtain ⟨i, _, rfl⟩ := List.mem_map.1 hx
 split <;> omega
theorem qmb (p : Nat) : Tr (qip p) := qks _
theorem qmc (p : Nat) : Tr (bitsOf p) := qks _
theorem qc8 : genP.length = 33 := by decide +kernel
theorem qh3 (p : Nat) : (bitsOf p).length ≤ 40 := by
 unfold bitsOf
 refine Nat.le_trans (qdv _) ?_
 rw [List.length_map, List.length_range]
 exact Nat.le_refl _
theorem quv {b : List Nat} (h0 : 0 < b.length) (hb : P01 b) (htb : Tr b) : ∀ (n : Nat) (a : List Nat), a.length = n → P01 a → Tr a → (divR (a.length + 1) a b).length < b.length := by
 intro n
 induction n using Nat.strongRecOn with
 | _ n ih =>
  intro a hn ha hta
  by_cases h : b.length ≤ a.length
  ·have hl := qe4 ha hb hta htb h0 h
   have hs := ql7 hb htb h0 ha hta h rfl
   rw [← hs]
   exact ih _ (by omega) _ rfl (sum01 ha _) (sumTr _ _ _)
  ·rw [ql8 h]; omega
def linR (y : Nat) : List Nat := divR ((bitsOf y).length + 1) (bitsOf y) genP
theorem qmd (y : Nat) : (linR y).length ≤ 32 := by
 have h := quv (b := genP) (by rw [qc8]; decide) (ql9 _) (qmb _) _ (bitsOf y) rfl (qma _) (qmc _)
 rw [qc8] at h
 exact Nat.le_of_lt_succ h
theorem qqv (y : Nat) : qoj (linR y) = qaa y := by
 unfold qaa linR
 have := qh3 y
 rw [ql6 (b := genP) (ql9 _) (qmb _) (by rw [qc8]; decide) _ (bitsOf y) rfl (qma _) (qmc _) ((bitsOf y).length + 1) 41 (by omega) (by omega)]
def remUp (r : List Nat) (k : Nat) : Nat := ((List.range k).map fun k => if r.getD k 0 = 1 then 2 ^ (31 - k) else 0).sum
theorem qc0 (r : List Nat) (k : Nat) : remUp r (k + 1) = remUp r k + if r.getD k 0 = 1 then 2 ^ (31 - k) else 0 := by
 unfold remUp
 rw [qa1, List.sum_append]
 simp
theorem qme (r : List Nat) : ∀ k, k ≤ 32 → remUp r k + 2 ^ (32 - k) ≤ 4294967296
 | 0, _ => by show 0 + 2 ^ 32 ≤ _; decide
 | k + 1, h => by
  have ih := qme r k (by omega)
  rw [qc0]
  have e1 : (2 : Nat) ^ (32 - k) = 2 ^ (32 - (k + 1)) * 2 := by rw [show 32 - k = (32 - (k + 1)) + 1 by omega, Nat.pow_succ]
  have e2 : (2 : Nat) ^ (31 - k) = 2 ^ (32 - (k + 1)) := by rw [show 31 - k = 32 - (k + 1) by omega]
  split <;> omega
theorem qjm (r : List Nat) : remUp r r.length = qoj r := rfl
def qan (y k : Nat) : List Nat := (List.range 40).map fun i => if 40 - k ≤ i then y / 2 ^ (39 - i) % 2 else 0
theorem qao (y k : Nat) : (qan y k).length = 40 := by unfold qan; rw [List.length_map, List.length_range]
theorem qed (y k : Nat) {i : Nat} (h : i < 40) : (qan y k)[i]? = some (if 40 - k ≤ i then y / 2 ^ (39 - i) % 2 else 0) := by
 unfold qan
 rw [List.getElem?_map, List.getElem?_range h]
 rfl
theorem qku (y : Nat) : qan y 0 = List.replicate 40 0 := by
 apply List.ext_getElem?
 intro i
 by_cases h : i < 40
 ·rw [qed y 0 h, if_neg (by omega), List.getElem?_replicate, if_pos h]
 ·rw [List.getElem?_eq_none (by rw [qao]; omega), List.getElem?_eq_none (by rw [List.length_replicate]; omega)]
theorem qkv {y k : Nat} (hk : k < 8) : (qan y k).set (39 - k) (y / 2 ^ k % 2) = qan y (k + 1) := by
 apply List.ext_getElem?
 intro i
 by_cases h : i < 40
 ·rw [List.getElem?_set, qed y (k + 1) h]
  by_cases hi : 39 - k = i
  ·rw [if_pos hi, if_pos (by rw [qao]; omega), if_pos (by omega), show 39 - i = k by omega]
  ·rw [if_neg hi, qed y k h]
   by_cases h2 : 40 - k ≤ i
   ·rw [if_pos h2, if_pos (by omega)]
   ·rw [if_neg h2, if_neg (by omega)]
 ·rw [List.getElem?_eq_none (by rw [List.length_set, qao]; omega), List.getElem?_eq_none (by rw [qao]; omega)]
theorem qg5 (y : Nat) : trimL (qan y 8) = bitsOf y := rfl
theorem pow31 (k : Nat) : 1 * 2 ^ (31 - k) ≤ 4294967295 := by
 have : (2 : Nat) ^ (31 - k) ≤ 2 ^ 31 := Nat.pow_le_pow_right (by decide) (by omega)
 omega
theorem quw (r : List Nat) {k : Nat} (h : k < 32) : remUp r k + 1 * 2 ^ (31 - k) ≤ 4294967295 := by
 have h1 := qme r k (by omega)
 have e1 : (2 : Nat) ^ (32 - k) = 2 ^ (31 - k) * 2 := by rw [show 32 - k = (31 - k) + 1 by omega, Nat.pow_succ]
 have : 0 < (2 : Nat) ^ (31 - k) := Nat.pow_pos (by decide)
 omega
theorem qqw : linR 0 = [] := by decide +kernel
theorem qsp : ∀ y, y < 256 → y ≠ 0 → 33 ≤ (bitsOf y).length := by decide +kernel
theorem qmf (A : Option Addr) (n c : Nat) (l : List Nat) (w : World) (hr : Rd w w.heap.size 1 A n (l.map I64v)) (hln : l.length = n) (hn : n ≤ 140737488355328) (hc : n ≤ c) :
    Calls Tryz.prog 147 #[.slice A n c] w (Is w (.slice A (trimL l).length c)) := by
 refine qg (vs := [.slice A n c]) Tryz.func147 rfl rfl (by kernel_rfl) (σ0 := [(0, .slice A n c)]) rfl ?_
 intro a HF
 have HM := Mem.start w
 refine wp_seq (qa ?_)
 refine fp HF 1 0 [(2, .slice none 0 0)] fun a HF => ?_
 refine qb rfl (wp_seq (wp_block ?_))
 refine qo (fun mS aS wS => ∃ (k : Nat), (k ≤ n) ∧ (trimL (l.take k) = trimL l) ∧ mS = 0 + k ∧ Fr aS 21 [] [(2, .slice none 0 0), (0, .slice A k c)] ∧ Mem w wS []) (m := 0 + n) ⟨n, Nat.le_refl _, by rw [List.take_of_length_le (by omega)], rfl, HF.sub (by kernel_rfl), HM.picks [] (by decide) rfl⟩ ?_
 clear HF HM; rintro mS a w_ ⟨k, hk, ht, rfl, HF, HM⟩
 refine wp_seq (wp_seq (qa ?_))
 refine fp HF 1 0 [(3, .slice A k c)] fun a HF => ?_
 refine fy HF HM 1 rfl rfl rfl (Yl.len rfl rfl (by kernel_rfl)) fun a HF => ?_
 refine fp HF 2 2 [(6, .bool (decide ((k : Int) > (0 : Int))))] fun a HF => ?_
 rcases HF.tf 6 rfl with ⟨hb6, HF⟩ | ⟨hb6, HF⟩
 ·
  have hd6 := of_decide_eq_true hb6
  have hk0 : 0 < k := by omega
  obtain ⟨gA, oA, rfl, _⟩ := hr.qp (Nat.lt_of_le_of_lt (Nat.zero_le _) (show 0 < n from by omega)) (by decide)
  refine fp HF 2 4 [(8, .slice (some ⟨gA, oA, none⟩) k c), (7, .slice (some ⟨gA, oA, none⟩) k c)] fun a HF => ?_
  refine fy HF HM 6 rfl rfl rfl (Yl.len rfl rfl (by kernel_rfl)) fun a HF => ?_
  refine fp HF 1 7 [(10, vI (IntKind.i64.wrap ((k : Int) - 1)))] fun a HF => ?_
  replace HF := HF.sp 10 (vI (k - 1 : Nat)) rfl (qi (by omega) (by omega))
  refine fy HF HM 8 rfl rfl rfl (v := vP gA (oA + (k - 1) * 1)) (Yl.ix gA oA (k - 1) 1 rfl rfl rfl) fun a HF => ?_
  refine fy HF HM 9 rfl rfl rfl (v := vI (l.getD (k - 1) 0)) (Yl.qf rfl rfl (by kernel_rfl) (fun _ h => (h.old hr).q7 (k := (k - 1)) (qz (F := I64v) (k := (k - 1)) (x := (l.getD (k - 1) 0)) ((getD_at 0 (k := (k - 1)) (by first | omega | (simp; omega))))))) fun a HF => ?_
  refine fp HF 2 10 [(14, .bool (((l.getD (k - 1) 0) : Int) == (0 : Int)))] fun a HF => ?_
  refine qb rfl ?_
  rcases HF.tf 14 rfl with ⟨hb14, HF⟩ | ⟨hb14, HF⟩
  ·
   have hd14 := eq_of_beq hb14
   refine qd HF rfl (wp_skip (wp_block (qa ?_)))
   refine fp HF 2 0 [(16, .slice (some ⟨gA, oA, none⟩) k c), (15, .slice (some ⟨gA, oA, none⟩) k c)] fun a HF => ?_
   refine fy HF HM 2 rfl rfl rfl (Yl.len rfl rfl (by kernel_rfl)) fun a HF => ?_
   refine fp HF 1 3 [(18, vI (IntKind.i64.wrap ((k : Int) - 1)))] fun a HF => ?_
   replace HF := HF.sp 18 (vI (k - 1 : Nat)) rfl (qi (by omega) (by omega))
   refine fy HF HM 4 rfl rfl rfl (v := .slice (some ⟨gA, oA, none⟩) (k - 1) c) (Yl.qbx qau (j := k - 1) rfl rfl rfl (by omega)) fun a HF => ?_
   refine fp HF 1 5 [(0, .slice (some ⟨gA, oA, none⟩) (k - 1) c)] fun a HF => ?_
   refine qb rfl ?_
   exact ⟨_, (by omega), (k - 1), by omega, qjk (by omega) (by omega) (by omega) ht, rfl, HF.sub (by kernel_rfl), HM.picks [] (by decide) rfl⟩
  have hd14 := ne_of_beq_false hb14
  refine qc HF rfl (wp_exit (wp_seq (qa ?_)))
  refine fp HF 2 0 [(2, .slice (some ⟨gA, oA, none⟩) k c)] fun a HF => ?_
  refine qb rfl (wp_ret ?_)
  exact ret1 rfl HF (.tmp HF rfl) (⟨by rw [qdu (k := k) (by omega) (fun _ => by omega) ht, List.length_take, Nat.min_eq_left (by omega)], HM.below⟩)
 have hd6 := of_decide_eq_false hb6
 refine fp HF 8 4 [(14, .bool false)] fun a HF => ?_
 refine qb rfl (qc HF rfl (wp_exit (wp_seq (qa ?_))))
 refine fp HF 2 0 [(2, .slice A k c)] fun a HF => ?_
 refine qb rfl (wp_ret ?_)
 exact ret1 rfl HF (.tmp HF rfl) (⟨by rw [qdu (k := k) (by omega) (fun _ => by omega) ht, List.length_take, Nat.min_eq_left (by omega)], HM.below⟩)
theorem qqx (p : Nat) (hp : p < 18446744073709551616) (w : World) :
    Calls Tryz.prog 131 #[.int .u64 (p : Int)] w (PolIs w (qip p)) := by
 refine qg (vs := [vQ p]) Tryz.func131 rfl rfl (by kernel_rfl) (σ0 := [(0, vQ p)]) rfl ?_
 intro a HF
 have HM := Mem.start w
 refine wp_seq (qa ?_)
 refine fp HF 1 0 [(2, .slice none 0 0)] fun a HF => ?_
 refine qb rfl (wp_seq (qa ?_))
 refine fp HF 1 0 [(3, .slice none 0 0)] fun a HF => ?_
 refine qb rfl ?_
 replace HM := HM.nil 3 1
 refine wp_seq (wp_seq (qa ?_))
 refine fp HF 1 0 [(4, vI 0)] fun a HF => ?_
 refine qb rfl (wp_block ?_)
 refine qo (fun mS aS wS => ∃ (k : Nat) (Ak : Option Addr) (ck : Nat), (k ≤ 64) ∧ (k ≤ ck) ∧ mS = 64 - k ∧ Fr aS 19 [] [(4, vI k), (3, .slice Ak k ck), (2, .slice none 0 0), (0, vQ p)] ∧ Mem w wS [.row (.slice Ak k ck) k ((qbv p k).map I64v) 3 1]) (m := 64 - 0) ⟨0, none, 0, by omega, Nat.le_refl _, rfl, HF.sub (by kernel_rfl), HM.picks [0] (by decide) rfl⟩ ?_
 clear HF HM; rintro mS a w_ ⟨k, Ak, ck, hk, hck, rfl, HF, HM⟩
 refine wp_seq (wp_seq (qa ?_))
 refine fp HF 2 0 [(6, .bool (decide ((k : Int) < (64 : Int))))] fun a HF => ?_
 refine qb rfl ?_
 rcases HF.tf 6 rfl with ⟨hb6, HF⟩ | ⟨hb6, HF⟩
 ·
  have hd6 := of_decide_eq_true hb6
  refine qd HF rfl (wp_skip (wp_seq (wp_block (qa ?_))))
  refine fp HF 3 0 [(11, vI k), (10, vQ p), (9, .slice Ak k ck)] fun a HF => ?_
  refine fy HF HM 3 rfl rfl rfl (v := vQ (p / 2 ^ k : Nat)) (Yl.shrN (m := p) (n := k) rfl rfl rfl (by show _ ≤ 64; omega)) fun a HF => ?_
  refine fp HF 1 4 [(13, vQ (Int.tmod ((p / 2 ^ k : Nat) : Int) 2))] fun a HF => ?_
  replace HF := HF.sp 13 (vQ ((p / 2 ^ k) % 2 : Nat)) rfl (qaf .u64 _ 2)
  refine fp HF 1 5 [(14, vI (IntKind.i64.wrap (((p / 2 ^ k) % 2 : Nat) : Int)))] fun a HF => ?_
  replace HF := HF.sp 14 (vI ((p / 2 ^ k) % 2 : Nat)) rfl (qi rfl (by omega))
  refine fo HF 6 rfl rfl ?_
  refine qt HF HM (vs := [(0, vI ((p / 2 ^ k) % 2 : Nat))]) (cs := #[vI ((p / 2 ^ k) % 2 : Nat)]) rfl qau (by decide) rfl (by kernel_rfl) rfl (by decide) ?_
  clear HF HM; intro a w15 g15 HF HM
  refine fo HF 7 rfl rfl ?_
  refine qw HF HM (i := 1) rfl qau rfl rfl rfl (news := [I64v ((p / 2 ^ k) % 2)]) (HM.rdBlk (i := 0) (n := 1) (size := 1) rfl rfl) (by simp [Value.oneCell', I64v]) (by omega) (by omega) rfl (by decide) ?_
  clear HF HM; intro a w16 A16 c16 HF HM hc16
  refine fp HF 1 8 [(3, .slice A16 (k + 1) c16)] fun a HF => ?_
  refine qb rfl ?_
  have hnA16 : k + 1 = k + 1 := rfl
  replace HM := HM.reRow (i := 1) (ys := (qbv p (k + 1)).map I64v) rfl hnA16 (by rw [qkt]; simp)
  rw [hnA16] at hc16
  replace HF := HF.as (t := 3) (u := .slice A16 (k + 1) c16) rfl (by rw [hnA16])
  replace HF := HF.as (t := 16) (u := .slice A16 (k + 1) c16) rfl (by rw [hnA16])
  refine qa ?_
  refine fp HF 2 0 [(8, vI (IntKind.i64.wrap ((k : Int) + 1)))] fun a HF => ?_
  replace HF := HF.sp 8 (vI (k + 1 : Nat)) rfl (qi (by omega) (by omega))
  refine fp HF 1 2 [(4, vI (k + 1 : Nat))] fun a HF => ?_
  refine qb rfl ?_
  exact ⟨_, (by omega), k + 1, A16, c16, by omega, hc16, rfl, HF.sub (by kernel_rfl), HM.picks [1] (by decide) rfl⟩
 have hd6 := of_decide_eq_false hb6
 obtain rfl : k = 64 := by omega
 refine qc HF rfl (wp_exit (wp_seq (qa ?_)))
 refine fp HF 1 0 [(17, .slice Ak 64 ck)] fun a HF => ?_
 refine fo HF 1 rfl rfl ?_
 refine e_is HF HM [.slice Ak 64 ck] (.slice Ak ((trimL (qbv p 64)).length) ck) rfl rfl (qmf _ _ _ (qbv p 64) _ (HM.rd (i := 0) rfl) (qg4 p 64) (by omega) (by omega)) fun w18 hbw HM a HF => ?_
 have htl18 := qdv (qbv p 64)
 have hle18 : (trimL (qbv p 64)).length ≤ 64 := by rw [qg4 p 64] at htl18; exact htl18
 replace HM := HM.cutRow (i := 0) rfl hle18 (qdw (qbv p 64))
 refine fp HF 1 2 [(2, .slice Ak ((trimL (qbv p 64)).length) ck)] fun a HF => ?_
 refine qb rfl (wp_ret ?_)
 exact ret1 rfl HF (.tmp HF rfl) (⟨⟨_, _, rfl, HM.own (i := 0) rfl, by show (trimL (qbv p 64)).length ≤ _; omega⟩, HM.below⟩)
theorem qg6 (A A2 : Option Addr) (c c2 : Nat) (p q : List Nat) (s : Nat) (w : World) (h1 : P01 p) (h2 : P01 q) (hr : Rd w w.heap.size 1 A p.length (p.map I64v)) (hr2 : Rd w w.heap.size 1 A2 q.length (q.map I64v)) (hp : p.length ≤ 1000000) (hq : q.length + s ≤ 1000000) :
    Calls Tryz.prog 146 #[.slice A p.length c, .slice A2 q.length c2, .int .i64 (s : Int)] w (PolIs w (sumL p q s)) := by
 refine qg (vs := [.slice A p.length c, .slice A2 q.length c2, vI s]) Tryz.func146 rfl rfl (by kernel_rfl) (σ0 := [(0, .slice A p.length c), (1, .slice A2 q.length c2), (2, vI s)]) rfl ?_
 intro a HF
 have HM := Mem.start w
 refine wp_seq (qa ?_)
 refine fp HF 1 0 [(6, .slice none 0 0)] fun a HF => ?_
 refine qb rfl (wp_seq (qa ?_))
 refine fp HF 1 0 [(7, .slice none 0 0)] fun a HF => ?_
 refine qb rfl ?_
 replace HM := HM.nil 3 1
 refine wp_seq (wp_seq (qa ?_))
 refine fp HF 1 0 [(8, vI 0)] fun a HF => ?_
 refine qb rfl (wp_block ?_)
 refine qo (fun mS aS wS => ∃ (k : Nat) (Ak : Option Addr) (ck : Nat), (k ≤ (max p.length (q.length + s))) ∧ (k ≤ ck) ∧ mS = (max p.length (q.length + s)) - k ∧ Fr aS 58 [] [(8, vI k), (7, .slice Ak k ck), (6, .slice none 0 0), (0, .slice A p.length c), (1, .slice A2 q.length c2), (2, vI s)] ∧ Mem w wS [.row (.slice Ak k ck) k ((sumUp p q s k).map I64v) 3 1]) (m := (max p.length (q.length + s)) - 0) ⟨0, none, 0, Nat.zero_le _, Nat.le_refl _, rfl, HF.sub (by kernel_rfl), HM.picks [0] (by decide) rfl⟩ ?_
 clear HF HM; rintro mS a w_ ⟨k, Ak, ck, hk, hck, rfl, HF, HM⟩
 refine wp_seq (wp_seq (qa ?_))
 refine fp HF 2 0 [(11, .slice A p.length c), (10, vI k)] fun a HF => ?_
 refine fy HF HM 2 rfl rfl rfl (Yl.len rfl rfl (by kernel_rfl)) fun a HF => ?_
 refine fp HF 2 3 [(14, .bool (decide ((k : Int) < (p.length : Int))))] fun a HF => ?_
 rcases HF.tf 14 rfl with ⟨hb14, HF⟩ | ⟨hb14, HF⟩
 ·
  have hd14 := of_decide_eq_true hb14
  refine fp HF 7 5 [(21, .bool true)] fun a HF => ?_
  refine qb rfl (qd HF rfl (wp_skip (wp_seq (wp_block (wp_seq (qa ?_))))))
  refine fp HF 1 0 [(9, vI 0)] fun a HF => ?_
  refine qb rfl (wp_seq (wp_seq (qa ?_)))
  refine fp HF 2 0 [(25, .slice A p.length c), (24, vI k)] fun a HF => ?_
  refine fy HF HM 2 rfl rfl rfl (Yl.len rfl rfl (by kernel_rfl)) fun a HF => ?_
  refine fp HF 1 3 [(27, .bool (decide ((k : Int) < (p.length : Int))))] fun a HF => ?_
  refine qb rfl ?_
  rcases HF.tf 27 rfl with ⟨hb27, HF⟩ | ⟨hb27, HF⟩
  ·
   have hd27 := of_decide_eq_true hb27
   refine qd HF rfl (qa ?_)
   refine fp HF 2 0 [(29, vI k), (28, .slice A p.length c)] fun a HF => ?_
   obtain ⟨gA, oA, rfl, _⟩ := hr.qp (Nat.lt_of_le_of_lt (Nat.zero_le _) (show k < p.length from by omega)) (by decide)
   refine fy HF HM 2 rfl rfl rfl (v := vP gA (oA + k * 1)) (Yl.ix gA oA k 1 rfl rfl rfl) fun a HF => ?_
   have hx54 := getD_lt h1 (k := k) (by first | omega | (simp; omega))
   refine fy HF HM 3 rfl rfl rfl (v := vI (p.getD k 0)) (Yl.qf rfl rfl (by kernel_rfl) (fun _ h => (h.old hr).q7 (k := k) (qz (F := I64v) (k := k) (x := (p.getD k 0)) ((getD_at 0 (k := k) (by first | omega | (simp; omega))))))) fun a HF => ?_
   refine fp HF 1 4 [(9, vI (p.getD k 0))] fun a HF => ?_
   refine qb rfl (wp_seq (wp_seq (qa ?_)))
   refine fp HF 4 0 [(35, .bool (decide ((k : Int) ≥ (s : Int))))] fun a HF => ?_
   rcases HF.tf 35 rfl with ⟨hb35, HF⟩ | ⟨hb35, HF⟩
   ·
    have hd35 := of_decide_eq_true hb35
    refine fp HF 3 4 [(38, vI (IntKind.i64.wrap ((k : Int) - (s : Int))))] fun a HF => ?_
    replace HF := HF.sp 38 (vI (k - s : Nat)) rfl (qi (by omega) (by omega))
    refine fp HF 1 7 [(39, .slice A2 q.length c2)] fun a HF => ?_
    refine fy HF HM 8 rfl rfl rfl (Yl.len rfl rfl (by kernel_rfl)) fun a HF => ?_
    refine fp HF 2 9 [(42, .bool (decide (((k - s : Nat) : Int) < (q.length : Int))))] fun a HF => ?_
    refine qb rfl ?_
    rcases HF.tf 42 rfl with ⟨hb42, HF⟩ | ⟨hb42, HF⟩
    ·
     have hd42 := of_decide_eq_true hb42
     refine qd HF rfl (qa ?_)
     refine fp HF 5 0 [(47, vI (IntKind.i64.wrap ((k : Int) - (s : Int)))), (44, .slice A2 q.length c2), (43, vI (p.getD k 0))] fun a HF => ?_
     replace HF := HF.sp 47 (vI (k - s : Nat)) rfl (qi (by omega) (by omega))
     obtain ⟨gA2, oA2, rfl, _⟩ := hr2.qp (Nat.lt_of_le_of_lt (Nat.zero_le _) (show k - s < q.length from by omega)) (by decide)
     refine fy HF HM 5 rfl rfl rfl (v := vP gA2 (oA2 + (k - s) * 1)) (Yl.ix gA2 oA2 (k - s) 1 rfl rfl rfl) fun a HF => ?_
     have hx80 := getD_lt h2 (k := (k - s)) (by first | omega | (simp; omega))
     refine fy HF HM 6 rfl rfl rfl (v := vI (q.getD (k - s) 0)) (Yl.qf rfl rfl (by kernel_rfl) (fun _ h => (h.old hr2).q7 (k := (k - s)) (qz (F := I64v) (k := (k - s)) (x := (q.getD (k - s) 0)) ((getD_at 0 (k := (k - s)) (by first | omega | (simp; omega))))))) fun a HF => ?_
     refine fp HF 1 7 [(50, vI (IntKind.i64.wrap (((p.getD k 0) : Int) + ((q.getD (k - s) 0) : Int))))] fun a HF => ?_
     replace HF := HF.sp 50 (vI ((p.getD k 0) + (q.getD (k - s) 0) : Nat)) rfl (qi (by omega) (by omega))
     refine fp HF 1 8 [(51, vI (Int.tmod (((p.getD k 0) + (q.getD (k - s) 0) : Nat) : Int) 2))] fun a HF => ?_
     replace HF := HF.sp 51 (vI (((p.getD k 0) + (q.getD (k - s) 0)) % 2 : Nat)) rfl (qaf .i64 _ 2)
     refine fp HF 1 9 [(9, vI (((p.getD k 0) + (q.getD (k - s) 0)) % 2 : Nat))] fun a HF => ?_
     refine qb rfl (qa ?_)
     refine fp HF 2 0 [(53, vI (((p.getD k 0) + (q.getD (k - s) 0)) % 2 : Nat)), (52, .slice Ak k ck)] fun a HF => ?_
     refine fo HF 2 rfl rfl ?_
     refine qt HF HM (vs := [(0, vI (((p.getD k 0) + (q.getD (k - s) 0)) % 2 : Nat))]) (cs := #[vI (((p.getD k 0) + (q.getD (k - s) 0)) % 2 : Nat)]) rfl qau (by decide) rfl (by kernel_rfl) rfl (by decide) ?_
     clear HF HM; intro a w54 g54 HF HM
     refine fo HF 3 rfl rfl ?_
     refine qw HF HM (i := 1) rfl qau rfl rfl rfl (news := [I64v (((p.getD k 0) + (q.getD (k - s) 0)) % 2)]) (HM.rdBlk (i := 0) (n := 1) (size := 1) rfl rfl) (by simp [Value.oneCell', I64v]) (by omega) (by omega) rfl (by decide) ?_
     clear HF HM; intro a w55 A55 c55 HF HM hc55
     refine fp HF 1 4 [(7, .slice A55 (k + 1) c55)] fun a HF => ?_
     refine qb rfl ?_
     have hnA55 : k + 1 = k + 1 := rfl
     replace HM := HM.reRow (i := 1) (ys := (sumUp p q s (k + 1)).map I64v) rfl hnA55 (by rw [qbd, qtq (by omega) (by omega)]; simp)
     rw [hnA55] at hc55
     replace HF := HF.as (t := 7) (u := .slice A55 (k + 1) c55) rfl (by rw [hnA55])
     replace HF := HF.as (t := 55) (u := .slice A55 (k + 1) c55) rfl (by rw [hnA55])
     refine qa ?_
     refine fp HF 2 0 [(23, vI (IntKind.i64.wrap ((k : Int) + 1)))] fun a HF => ?_
     replace HF := HF.sp 23 (vI (k + 1 : Nat)) rfl (qi (by omega) (by omega))
     refine fp HF 1 2 [(8, vI (k + 1 : Nat))] fun a HF => ?_
     refine qb rfl ?_
     replace HF := HF.to [(8, vI (k + 1 : Nat)), (55, .slice A55 (k + 1) c55), (7, .slice A55 (k + 1) c55), (9, vI (((p.getD k 0) + (q.getD (k - s) 0)) % 2 : Nat)), (42, .bool true), (27, .bool true), (21, .bool true), (6, .slice none 0 0), (0, .slice (some ⟨gA, oA, none⟩) p.length c), (1, .slice (some ⟨gA2, oA2, none⟩) q.length c2), (2, vI s)]
     exact ⟨_, (by omega), k + 1, A55, c55, by omega, hc55, rfl, HF.sub (by kernel_rfl), HM.picks [1] (by decide) rfl⟩
    have hd42 := of_decide_eq_false hb42
    refine qc HF rfl (wp_skip (qa ?_))
    refine fp HF 2 0 [(53, vI (p.getD k 0)), (52, .slice Ak k ck)] fun a HF => ?_
    refine fo HF 2 rfl rfl ?_
    refine qt HF HM (vs := [(0, vI (p.getD k 0))]) (cs := #[vI (p.getD k 0)]) rfl qau (by decide) rfl (by kernel_rfl) rfl (by decide) ?_
    clear HF HM; intro a w54 g54 HF HM
    refine fo HF 3 rfl rfl ?_
    refine qw HF HM (i := 1) rfl qau rfl rfl rfl (news := [I64v (p.getD k 0)]) (HM.rdBlk (i := 0) (n := 1) (size := 1) rfl rfl) (by simp [Value.oneCell', I64v]) (by omega) (by omega) rfl (by decide) ?_
    clear HF HM; intro a w55 A55 c55 HF HM hc55
    refine fp HF 1 4 [(7, .slice A55 (k + 1) c55)] fun a HF => ?_
    refine qb rfl ?_
    have hnA55 : k + 1 = k + 1 := rfl
    replace HM := HM.reRow (i := 1) (ys := (sumUp p q s (k + 1)).map I64v) rfl hnA55 (by rw [qbd, qqu (by omega)]; simp)
    rw [hnA55] at hc55
    replace HF := HF.as (t := 7) (u := .slice A55 (k + 1) c55) rfl (by rw [hnA55])
    replace HF := HF.as (t := 55) (u := .slice A55 (k + 1) c55) rfl (by rw [hnA55])
    refine qa ?_
    refine fp HF 2 0 [(23, vI (IntKind.i64.wrap ((k : Int) + 1)))] fun a HF => ?_
    replace HF := HF.sp 23 (vI (k + 1 : Nat)) rfl (qi (by omega) (by omega))
    refine fp HF 1 2 [(8, vI (k + 1 : Nat))] fun a HF => ?_
    refine qb rfl ?_
    exact ⟨_, (by omega), k + 1, A55, c55, by omega, hc55, rfl, HF.sub (by kernel_rfl), HM.picks [1] (by decide) rfl⟩
   have hd35 := of_decide_eq_false hb35
   refine fp HF 7 4 [(42, .bool false)] fun a HF => ?_
   refine qb rfl (qc HF rfl (wp_skip (qa ?_)))
   refine fp HF 2 0 [(53, vI (p.getD k 0)), (52, .slice Ak k ck)] fun a HF => ?_
   refine fo HF 2 rfl rfl ?_
   refine qt HF HM (vs := [(0, vI (p.getD k 0))]) (cs := #[vI (p.getD k 0)]) rfl qau (by decide) rfl (by kernel_rfl) rfl (by decide) ?_
   clear HF HM; intro a w54 g54 HF HM
   refine fo HF 3 rfl rfl ?_
   refine qw HF HM (i := 1) rfl qau rfl rfl rfl (news := [I64v (p.getD k 0)]) (HM.rdBlk (i := 0) (n := 1) (size := 1) rfl rfl) (by simp [Value.oneCell', I64v]) (by omega) (by omega) rfl (by decide) ?_
   clear HF HM; intro a w55 A55 c55 HF HM hc55
   refine fp HF 1 4 [(7, .slice A55 (k + 1) c55)] fun a HF => ?_
   refine qb rfl ?_
   have hnA55 : k + 1 = k + 1 := rfl
   replace HM := HM.reRow (i := 1) (ys := (sumUp p q s (k + 1)).map I64v) rfl hnA55 (by rw [qbd, qqu (by omega)]; simp)
   rw [hnA55] at hc55
   replace HF := HF.as (t := 7) (u := .slice A55 (k + 1) c55) rfl (by rw [hnA55])
   replace HF := HF.as (t := 55) (u := .slice A55 (k + 1) c55) rfl (by rw [hnA55])
   refine qa ?_
   refine fp HF 2 0 [(23, vI (IntKind.i64.wrap ((k : Int) + 1)))] fun a HF => ?_
   replace HF := HF.sp 23 (vI (k + 1 : Nat)) rfl (qi (by omega) (by omega))
   refine fp HF 1 2 [(8, vI (k + 1 : Nat))] fun a HF => ?_
   refine qb rfl ?_
   exact ⟨_, (by omega), k + 1, A55, c55, by omega, hc55, rfl, HF.sub (by kernel_rfl), HM.picks [1] (by decide) rfl⟩
  have hd27 := of_decide_eq_false hb27
  omega
 have hd14 := of_decide_eq_false hb14
 refine fp HF 2 5 [(16, .slice A2 q.length c2), (15, vI k)] fun a HF => ?_
 refine fy HF HM 7 rfl rfl rfl (Yl.len rfl rfl (by kernel_rfl)) fun a HF => ?_
 refine fp HF 2 8 [(19, vI (IntKind.i64.wrap ((q.length : Int) + (s : Int))))] fun a HF => ?_
 replace HF := HF.sp 19 (vI (q.length + s : Nat)) rfl (qi (by omega) (by omega))
 refine fp HF 2 10 [(21, .bool (decide ((k : Int) < ((q.length + s : Nat) : Int))))] fun a HF => ?_
 refine qb rfl ?_
 rcases HF.tf 21 rfl with ⟨hb21, HF⟩ | ⟨hb21, HF⟩
 ·
  have hd21 := of_decide_eq_true hb21
  refine qd HF rfl (wp_skip (wp_seq (wp_block (wp_seq (qa ?_)))))
  refine fp HF 1 0 [(9, vI 0)] fun a HF => ?_
  refine qb rfl (wp_seq (wp_seq (qa ?_)))
  refine fp HF 2 0 [(25, .slice A p.length c), (24, vI k)] fun a HF => ?_
  refine fy HF HM 2 rfl rfl rfl (Yl.len rfl rfl (by kernel_rfl)) fun a HF => ?_
  refine fp HF 1 3 [(27, .bool (decide ((k : Int) < (p.length : Int))))] fun a HF => ?_
  refine qb rfl ?_
  rcases HF.tf 27 rfl with ⟨hb27, HF⟩ | ⟨hb27, HF⟩
  ·
   have hd27 := of_decide_eq_true hb27
   omega
  have hd27 := of_decide_eq_false hb27
  refine qc HF rfl (wp_skip (wp_seq (wp_seq (qa ?_))))
  refine fp HF 4 0 [(35, .bool (decide ((k : Int) ≥ (s : Int))))] fun a HF => ?_
  rcases HF.tf 35 rfl with ⟨hb35, HF⟩ | ⟨hb35, HF⟩
  ·
   have hd35 := of_decide_eq_true hb35
   refine fp HF 3 4 [(38, vI (IntKind.i64.wrap ((k : Int) - (s : Int))))] fun a HF => ?_
   replace HF := HF.sp 38 (vI (k - s : Nat)) rfl (qi (by omega) (by omega))
   refine fp HF 1 7 [(39, .slice A2 q.length c2)] fun a HF => ?_
   refine fy HF HM 8 rfl rfl rfl (Yl.len rfl rfl (by kernel_rfl)) fun a HF => ?_
   refine fp HF 2 9 [(42, .bool (decide (((k - s : Nat) : Int) < (q.length : Int))))] fun a HF => ?_
   refine qb rfl ?_
   rcases HF.tf 42 rfl with ⟨hb42, HF⟩ | ⟨hb42, HF⟩
   ·
    have hd42 := of_decide_eq_true hb42
    refine qd HF rfl (qa ?_)
    refine fp HF 5 0 [(47, vI (IntKind.i64.wrap ((k : Int) - (s : Int)))), (44, .slice A2 q.length c2), (43, vI 0)] fun a HF => ?_
    replace HF := HF.sp 47 (vI (k - s : Nat)) rfl (qi (by omega) (by omega))
    obtain ⟨gA2, oA2, rfl, _⟩ := hr2.qp (Nat.lt_of_le_of_lt (Nat.zero_le _) (show k - s < q.length from by omega)) (by decide)
    refine fy HF HM 5 rfl rfl rfl (v := vP gA2 (oA2 + (k - s) * 1)) (Yl.ix gA2 oA2 (k - s) 1 rfl rfl rfl) fun a HF => ?_
    have hx216 := getD_lt h2 (k := (k - s)) (by first | omega | (simp; omega))
    refine fy HF HM 6 rfl rfl rfl (v := vI (q.getD (k - s) 0)) (Yl.qf rfl rfl (by kernel_rfl) (fun _ h => (h.old hr2).q7 (k := (k - s)) (qz (F := I64v) (k := (k - s)) (x := (q.getD (k - s) 0)) ((getD_at 0 (k := (k - s)) (by first | omega | (simp; omega))))))) fun a HF => ?_
    refine fp HF 1 7 [(50, vI (IntKind.i64.wrap (0 + ((q.getD (k - s) 0) : Int))))] fun a HF => ?_
    replace HF := HF.sp 50 (vI (0 + (q.getD (k - s) 0) : Nat)) rfl (qi (by omega) (by omega))
    refine fp HF 1 8 [(51, vI (Int.tmod ((0 + (q.getD (k - s) 0) : Nat) : Int) 2))] fun a HF => ?_
    replace HF := HF.sp 51 (vI ((0 + (q.getD (k - s) 0)) % 2 : Nat)) rfl (qaf .i64 _ 2)
    refine fp HF 1 9 [(9, vI ((0 + (q.getD (k - s) 0)) % 2 : Nat))] fun a HF => ?_
    refine qb rfl (qa ?_)
    refine fp HF 2 0 [(53, vI ((0 + (q.getD (k - s) 0)) % 2 : Nat)), (52, .slice Ak k ck)] fun a HF => ?_
    refine fo HF 2 rfl rfl ?_
    refine qt HF HM (vs := [(0, vI ((0 + (q.getD (k - s) 0)) % 2 : Nat))]) (cs := #[vI ((0 + (q.getD (k - s) 0)) % 2 : Nat)]) rfl qau (by decide) rfl (by kernel_rfl) rfl (by decide) ?_
    clear HF HM; intro a w54 g54 HF HM
    refine fo HF 3 rfl rfl ?_
    refine qw HF HM (i := 1) rfl qau rfl rfl rfl (news := [I64v ((0 + (q.getD (k - s) 0)) % 2)]) (HM.rdBlk (i := 0) (n := 1) (size := 1) rfl rfl) (by simp [Value.oneCell', I64v]) (by omega) (by omega) rfl (by decide) ?_
    clear HF HM; intro a w55 A55 c55 HF HM hc55
    refine fp HF 1 4 [(7, .slice A55 (k + 1) c55)] fun a HF => ?_
    refine qb rfl ?_
    have hnA55 : k + 1 = k + 1 := rfl
    replace HM := HM.reRow (i := 1) (ys := (sumUp p q s (k + 1)).map I64v) rfl hnA55 (by rw [qbd, qv9 (by omega) (by omega) (by omega)]; simp)
    rw [hnA55] at hc55
    replace HF := HF.as (t := 7) (u := .slice A55 (k + 1) c55) rfl (by rw [hnA55])
    replace HF := HF.as (t := 55) (u := .slice A55 (k + 1) c55) rfl (by rw [hnA55])
    refine qa ?_
    refine fp HF 2 0 [(23, vI (IntKind.i64.wrap ((k : Int) + 1)))] fun a HF => ?_
    replace HF := HF.sp 23 (vI (k + 1 : Nat)) rfl (qi (by omega) (by omega))
    refine fp HF 1 2 [(8, vI (k + 1 : Nat))] fun a HF => ?_
    refine qb rfl ?_
    replace HF := HF.to [(8, vI (k + 1 : Nat)), (55, .slice A55 (k + 1) c55), (7, .slice A55 (k + 1) c55), (9, vI ((0 + (q.getD (k - s) 0)) % 2 : Nat)), (42, .bool true), (27, .bool false), (21, .bool true), (6, .slice none 0 0), (0, .slice A p.length c), (1, .slice (some ⟨gA2, oA2, none⟩) q.length c2), (2, vI s)]
    exact ⟨_, (by omega), k + 1, A55, c55, by omega, hc55, rfl, HF.sub (by kernel_rfl), HM.picks [1] (by decide) rfl⟩
   have hd42 := of_decide_eq_false hb42
   refine qc HF rfl (wp_skip (qa ?_))
   refine fp HF 2 0 [(53, vI 0), (52, .slice Ak k ck)] fun a HF => ?_
   refine fo HF 2 rfl rfl ?_
   refine qt HF HM (vs := [(0, vI 0)]) (cs := #[vI 0]) rfl qau (by decide) rfl (by kernel_rfl) rfl (by decide) ?_
   clear HF HM; intro a w54 g54 HF HM
   refine fo HF 3 rfl rfl ?_
   refine qw HF HM (i := 1) rfl qau rfl rfl rfl (news := [I64v 0]) (HM.rdBlk (i := 0) (n := 1) (size := 1) rfl rfl) (by simp [Value.oneCell', I64v]) (by omega) (by omega) rfl (by decide) ?_
   clear HF HM; intro a w55 A55 c55 HF HM hc55
   refine fp HF 1 4 [(7, .slice A55 (k + 1) c55)] fun a HF => ?_
   refine qb rfl ?_
   have hnA55 : k + 1 = k + 1 := rfl
   replace HM := HM.reRow (i := 1) (ys := (sumUp p q s (k + 1)).map I64v) rfl hnA55 (by rw [qbd, qtr (by omega) (by omega)]; simp)
   rw [hnA55] at hc55
   replace HF := HF.as (t := 7) (u := .slice A55 (k + 1) c55) rfl (by rw [hnA55])
   replace HF := HF.as (t := 55) (u := .slice A55 (k + 1) c55) rfl (by rw [hnA55])
   refine qa ?_
   refine fp HF 2 0 [(23, vI (IntKind.i64.wrap ((k : Int) + 1)))] fun a HF => ?_
   replace HF := HF.sp 23 (vI (k + 1 : Nat)) rfl (qi (by omega) (by omega))
   refine fp HF 1 2 [(8, vI (k + 1 : Nat))] fun a HF => ?_
   refine qb rfl ?_
   exact ⟨_, (by omega), k + 1, A55, c55, by omega, hc55, rfl, HF.sub (by kernel_rfl), HM.picks [1] (by decide) rfl⟩
  have hd35 := of_decide_eq_false hb35
  refine fp HF 7 4 [(42, .bool false)] fun a HF => ?_
  refine qb rfl (qc HF rfl (wp_skip (qa ?_)))
  refine fp HF 2 0 [(53, vI 0), (52, .slice Ak k ck)] fun a HF => ?_
  refine fo HF 2 rfl rfl ?_
  refine qt HF HM (vs := [(0, vI 0)]) (cs := #[vI 0]) rfl qau (by decide) rfl (by kernel_rfl) rfl (by decide) ?_
  clear HF HM; intro a w54 g54 HF HM
  refine fo HF 3 rfl rfl ?_
  refine qw HF HM (i := 1) rfl qau rfl rfl rfl (news := [I64v 0]) (HM.rdBlk (i := 0) (n := 1) (size := 1) rfl rfl) (by simp [Value.oneCell', I64v]) (by omega) (by omega) rfl (by decide) ?_
  clear HF HM; intro a w55 A55 c55 HF HM hc55
  refine fp HF 1 4 [(7, .slice A55 (k + 1) c55)] fun a HF => ?_
  refine qb rfl ?_
  have hnA55 : k + 1 = k + 1 := rfl
  replace HM := HM.reRow (i := 1) (ys := (sumUp p q s (k + 1)).map I64v) rfl hnA55 (by rw [qbd, qtr (by omega) (by omega)]; simp)
  rw [hnA55] at hc55
  replace HF := HF.as (t := 7) (u := .slice A55 (k + 1) c55) rfl (by rw [hnA55])
  replace HF := HF.as (t := 55) (u := .slice A55 (k + 1) c55) rfl (by rw [hnA55])
  refine qa ?_
  refine fp HF 2 0 [(23, vI (IntKind.i64.wrap ((k : Int) + 1)))] fun a HF => ?_
  replace HF := HF.sp 23 (vI (k + 1 : Nat)) rfl (qi (by omega) (by omega))
  refine fp HF 1 2 [(8, vI (k + 1 : Nat))] fun a HF => ?_
  refine qb rfl ?_
  exact ⟨_, (by omega), k + 1, A55, c55, by omega, hc55, rfl, HF.sub (by kernel_rfl), HM.picks [1] (by decide) rfl⟩
 have hd21 := of_decide_eq_false hb21
 have hkM : k = (max p.length (q.length + s)) := by omega
 refine qc HF rfl (wp_exit (wp_seq (qa ?_)))
 refine fp HF 1 0 [(56, .slice Ak k ck)] fun a HF => ?_
 refine fo HF 1 rfl rfl ?_
 refine e_is HF HM [.slice Ak k ck] (.slice Ak ((trimL (sumUp p q s k)).length) ck) rfl rfl (qmf _ _ _ (sumUp p q s k) _ (HM.rd (i := 0) rfl) (qjl p q s k) (by omega) (by omega)) fun w57 hbw HM a HF => ?_
 have htl57 := qdv (sumUp p q s k)
 have hle57 : (trimL (sumUp p q s k)).length ≤ k := by rw [qjl p q s k] at htl57; exact htl57
 replace HM := HM.cutRow (i := 0) rfl hle57 (qdw (sumUp p q s k))
 refine fp HF 1 2 [(6, .slice Ak ((trimL (sumUp p q s k)).length) ck)] fun a HF => ?_
 refine qb rfl (wp_ret ?_)
 exact ret1 rfl HF (.tmp HF rfl) (by rw [← qqt p q s, ← hkM]; exact ⟨⟨_, _, rfl, HM.own (i := 0) rfl, by omega⟩, HM.below⟩)
theorem one01 : P01 [1] := by intro x hx; simp at hx; omega
theorem qsq {w w' : World} {A X Xr : Option Addr} {c ca cr : Nat} {p q al xr : List Nat} {vq : Value} (hR : divR (p.length + 1) p q = al) (hX : (X = A ∧ ca = c ∧ al = p) ∨ (X = Xr ∧ ca = cr ∧ al = xr ∧ q.length ≤ p.length))
  (hO : w'.ownsRow w.heap.size 3 1 (.slice Xr xr.length cr) xr.length (xr.map I64v)) (hcr : xr.length ≤ cr) (hless : al.length < q.length) (hb : Below w.heap.size w w') :
  DivIs w A c p q (.returned (.tuple #[vq, .slice X al.length ca])) w' := by
 unfold DivIs
 rw [hR]
 refine ⟨⟨vq, X, ca, rfl, ?_, ?_⟩, hb⟩
 ·intro h
  rcases hX with ⟨h1, h2, _⟩ | ⟨_, _, _, h4⟩
  ·exact ⟨h1, h2⟩
  ·omega
 ·intro h
  rcases hX with ⟨_, _, h3⟩ | ⟨rfl, rfl, rfl, _⟩
  ·subst h3; omega
  ·exact ⟨hO, hcr⟩
theorem qg7 (A A2 : Option Addr) (c c2 : Nat) (p q : List Nat) (w : World) (h1 : P01 p) (h2 : P01 q) (t1 : Tr p) (t2 : Tr q) (h0 : 0 < q.length) (hr : Rd w w.heap.size 1 A p.length (p.map I64v)) (hr2 : Rd w w.heap.size 1 A2 q.length (q.map I64v)) (hp : p.length ≤ 100000) (hq : q.length ≤ 100000) :
    Calls Tryz.prog 129 #[.slice A p.length c, .slice A2 q.length c2] w (DivIs w A c p q) := by
 refine qg (vs := [.slice A p.length c, .slice A2 q.length c2]) Tryz.func129 rfl rfl (by kernel_rfl) (σ0 := [(0, .slice A p.length c), (1, .slice A2 q.length c2)]) rfl ?_
 intro a HF
 have HM := Mem.start w
 refine wp_seq (qa ?_)
 refine fp HF 2 0 [(5, .slice none 0 0), (4, .slice none 0 0)] fun a HF => ?_
 refine qb rfl (wp_seq (qa ?_))
 refine fp HF 1 0 [(6, .slice none 0 0)] fun a HF => ?_
 refine qb rfl ?_
 replace HM := (HM.nil 3 1).nil 3 1
 refine wp_seq (wp_block ?_)
 refine qo (fun mS aS wS => ∃ (al : List Nat) (X : Option Addr) (ca : Nat) (Xr : Option Addr) (xr : List Nat) (cr : Nat) (ql : List Nat) (Aq : Option Addr) (cq : Nat), (P01 al) ∧ (Tr al) ∧ (al.length ≤ p.length) ∧ (divR (al.length + 1) al q = divR (p.length + 1) p q) ∧ ((X = A ∧ ca = c ∧ al = p) ∨ (X = Xr ∧ ca = cr ∧ al = xr ∧ q.length ≤ p.length)) ∧ (P01 ql) ∧ (ql.length ≤ p.length + 1) ∧ (xr.length ≤ cr) ∧ mS = al.length ∧ Fr aS 28 [] [(6, .slice Aq ql.length cq), (5, .slice none 0 0), (4, .slice none 0 0), (0, .slice X al.length ca), (1, .slice A2 q.length c2)] ∧ Mem w wS [.row (.slice Aq ql.length cq) ql.length (ql.map I64v) 3 1, .row (.slice Xr xr.length cr) xr.length (xr.map I64v) 3 1]) (m := p.length) ⟨p, A, c, none, [], 0, [], none, 0, h1, t1, Nat.le_refl _, rfl, .inl ⟨rfl, rfl, rfl⟩, (by intro x hx; cases hx), Nat.zero_le _, Nat.le_refl _, rfl, HF.sub (by kernel_rfl), HM.picks [0, 1] (by decide) rfl⟩ ?_
 clear HF HM; rintro mS a w_ ⟨al, X, ca, Xr, xr, cr, ql, Aq, cq, ha1, hat, hal, hdv, hX, hq1, hql, hcr, rfl, HF, HM⟩
 refine wp_seq (wp_seq (qa ?_))
 refine fp HF 1 0 [(8, .slice X al.length ca)] fun a HF => ?_
 refine fy HF HM 1 rfl rfl rfl (Yl.len rfl rfl (by kernel_rfl)) fun a HF => ?_
 refine fp HF 1 2 [(10, .slice A2 q.length c2)] fun a HF => ?_
 refine fy HF HM 3 rfl rfl rfl (Yl.len rfl rfl (by kernel_rfl)) fun a HF => ?_
 refine fp HF 1 4 [(12, .bool (decide ((al.length : Int) ≥ (q.length : Int))))] fun a HF => ?_
 refine qb rfl ?_
 rcases HF.tf 12 rfl with ⟨hb12, HF⟩ | ⟨hb12, HF⟩
 ·
  have hd12 := of_decide_eq_true hb12
  have hless := qe4 ha1 h2 hat t2 h0 (by omega)
  refine qd HF rfl (wp_skip (wp_block (wp_seq (qa ?_))))
  refine fp HF 1 0 [(13, .slice X al.length ca)] fun a HF => ?_
  refine fy HF HM 1 rfl rfl rfl (Yl.len rfl rfl (by kernel_rfl)) fun a HF => ?_
  refine fp HF 1 2 [(15, .slice A2 q.length c2)] fun a HF => ?_
  refine fy HF HM 3 rfl rfl rfl (Yl.len rfl rfl (by kernel_rfl)) fun a HF => ?_
  refine fp HF 1 4 [(17, vI (IntKind.i64.wrap ((al.length : Int) - (q.length : Int))))] fun a HF => ?_
  replace HF := HF.sp 17 (vI (al.length - q.length : Nat)) rfl (qi (by omega) (by omega))
  refine fp HF 1 5 [(7, vI (al.length - q.length : Nat))] fun a HF => ?_
  refine qb rfl (wp_seq (qa ?_))
  refine fp HF 1 0 [(18, .slice Aq ql.length cq)] fun a HF => ?_
  refine fo HF 1 rfl rfl ?_
  refine qt HF HM (vs := [(0, vI 1)]) (cs := #[vI 1]) rfl qau (by decide) rfl (by kernel_rfl) rfl (by decide) ?_
  clear HF HM; intro a w19 g19 HF HM
  refine fp HF 1 2 [(20, vI (al.length - q.length : Nat))] fun a HF => ?_
  refine fo HF 3 rfl rfl ?_
  refine e_cl HF [.slice Aq ql.length cq, vS g19 1 1, vI (al.length - q.length : Nat)] rfl rfl (qg6 _ _ _ _ ql [1] (al.length - q.length) _ hq1 one01 (HM.rd (i := 1) rfl) (HM.rdBlk (i := 0) (n := 1) (size := 1) rfl rfl) (by omega) (by simp only [List.length_singleton]; omega)) ?_
  rintro _ w21 ⟨⟨A21, c21, rfl, ho, hc21⟩, hbw⟩
  refine ⟨_, rfl, ?_⟩
  replace HM := HM.callRow hbw ho
  clear HF; intro a HF
  refine fp HF 1 4 [(6, .slice A21 ((sumL ql [1] (al.length - q.length)).length) c21)] fun a HF => ?_
  refine qb rfl (qa ?_)
  refine fp HF 3 0 [(24, vI (al.length - q.length : Nat)), (23, .slice A2 q.length c2), (22, .slice X al.length ca)] fun a HF => ?_
  refine fo HF 3 rfl rfl ?_
  refine e_cl HF [.slice X al.length ca, .slice A2 q.length c2, vI (al.length - q.length : Nat)] rfl rfl (qg6 _ _ _ _ al q (al.length - q.length) _ ha1 h2 (by rcases hX with ⟨rfl, rfl, rfl⟩ | ⟨rfl, rfl, rfl, _⟩ <;> first | exact HM.old hr | exact HM.rd (i := 3) rfl) (HM.old hr2) (by omega) (by omega)) ?_
  rintro _ w25 ⟨⟨A25, c25, rfl, ho, hc25⟩, hbw⟩
  refine ⟨_, rfl, ?_⟩
  replace HM := HM.callRow hbw ho
  clear HF; intro a HF
  refine fp HF 1 4 [(0, .slice A25 ((sumL al q (al.length - q.length)).length) c25)] fun a HF => ?_
  refine qb rfl ?_
  exact ⟨_, hless, (sumL al q (al.length - q.length)), A25, c25, A25, (sumL al q (al.length - q.length)), c25, (sumL ql [1] (al.length - q.length)), A21, c21, sum01 ha1 _, sumTr _ _ _, by omega, ql7 h2 t2 h0 ha1 hat (by omega) hdv, .inr ⟨rfl, rfl, rfl, by omega⟩, sum01 hq1 _, by have := quu ql [1] (al.length - q.length); simp only [List.length_singleton] at this; omega, hc25, rfl, HF.sub (by kernel_rfl), HM.picks [1, 0] (by decide) rfl⟩
 have hd12 := of_decide_eq_false hb12
 refine qc HF rfl (wp_exit (wp_seq (qa ?_)))
 refine fp HF 4 0 [(5, .slice X al.length ca), (4, .slice Aq ql.length cq)] fun a HF => ?_
 refine qb rfl (wp_ret ?_)
 have hR : divR (p.length + 1) p q = al := by rw [← hdv, ql8 (by omega)]
 exact ret2 rfl HF (.tmp HF rfl) (.tmp HF rfl) (qsq hR hX (HM.own (i := 1) rfl) hcr (by omega) HM.below)
theorem qmh (A : Option Addr) (c y : Nat) (hy : y < 256) (w : World) (hr : Rd w w.heap.size 1 A 1 ([y].map B8)) :
    Calls Tryz.prog 130 #[.slice A 1 c] w (PolIs w (bitsOf y)) := by
 refine qg (vs := [.slice A 1 c]) Tryz.func130 rfl rfl (by kernel_rfl) (σ0 := [(0, .slice A 1 c)]) rfl ?_
 intro a HF
 have HM := Mem.start w
 refine wp_seq (qa ?_)
 refine fp HF 1 0 [(2, .slice none 0 0)] fun a HF => ?_
 refine qb rfl (wp_seq (qa ?_))
 refine fp HF 1 0 [(6, .slice A 1 c)] fun a HF => ?_
 refine fy HF HM 1 rfl rfl rfl (Yl.len rfl rfl (by kernel_rfl)) fun a HF => ?_
 refine fp HF 2 2 [(3, vI 8)] fun a HF => ?_
 refine qb rfl (wp_seq (qa ?_))
 refine fp HF 2 0 [(10, vI 40)] fun a HF => ?_
 refine fo HF 2 rfl rfl ?_
 refine qoc HF HM (m := 40) rfl qau rfl rfl (by omega) (by omega) rfl (by decide) ?_
 clear HF HM; intro a w11 g11 HF HM
 refine fp HF 1 3 [(4, vS g11 40 40)] fun a HF => ?_
 refine qb rfl ?_
 have hnsomeg110none : 40 = 40 := rfl
 replace HM := HM.reRow (i := 0) (ys := (qan y 0).map I64v) rfl hnsomeg110none (by rw [qku]; kernel_rfl)
 replace HF := HF.as (t := 4) (u := vS g11 40 40) rfl (by rw [hnsomeg110none])
 replace HF := HF.as (t := 11) (u := vS g11 40 40) rfl (by rw [hnsomeg110none])
 refine wp_seq (wp_seq (qa ?_))
 refine fp HF 1 0 [(5, vI 0)] fun a HF => ?_
 refine qb rfl (wp_block ?_)
 refine qo (fun mS aS wS => ∃ (k : Nat), (k ≤ 8) ∧ mS = 8 - k ∧ Fr aS 52 [] [(5, vI k), (11, vS g11 40 40), (4, vS g11 40 40), (3, vI 8), (2, .slice none 0 0), (0, .slice A 1 c)] ∧ Mem w wS [.row (vS g11 40 40) 40 ((qan y k).map I64v) 3 1]) (m := 8 - 0) ⟨0, by omega, rfl, HF.sub (by kernel_rfl), HM.picks [0] (by decide) rfl⟩ ?_
 clear HF HM; rintro mS a w_ ⟨k, hk, rfl, HF, HM⟩
 refine wp_seq (wp_seq (qa ?_))
 refine fp HF 3 0 [(14, .bool (decide ((k : Int) < (8 : Int))))] fun a HF => ?_
 refine qb rfl ?_
 rcases HF.tf 14 rfl with ⟨hb14, HF⟩ | ⟨hb14, HF⟩
 ·
  have hd14 := of_decide_eq_true hb14
  have hk8 : k < 8 := by omega
  refine qd HF rfl (wp_skip (wp_seq (wp_block (qa ?_))))
  refine fp HF 6 0 [(22, vI (IntKind.i64.wrap (39 - (k : Int)))), (17, vS g11 40 40)] fun a HF => ?_
  replace HF := HF.sp 22 (vI (39 - k : Nat)) rfl (qi (by omega) (by omega))
  refine fp HF 3 6 [(25, vI (IntKind.i64.wrap (Int.tdiv (k : Int) 8))), (23, .slice A 1 c)] fun a HF => ?_
  replace HF := HF.sp 25 (vI (k / 8 : Nat)) rfl (qcv .i64 8 (by show _ ≤ 9223372036854775807; omega))
  obtain ⟨gA, oA, rfl, _⟩ := hr.qp (Nat.lt_of_le_of_lt (Nat.zero_le _) (show k / 8 < 1 from by omega)) (by decide)
  refine fy HF HM 9 rfl rfl rfl (v := vP gA (oA + (k / 8) * 1)) (Yl.ix gA oA (k / 8) 1 rfl rfl rfl) fun a HF => ?_
  refine fy HF HM 10 rfl rfl rfl (v := vB ([y].getD (k / 8) 0)) (Yl.qf rfl rfl (by kernel_rfl) (fun _ h => (h.old hr).q7 (k := (k / 8)) (qz (F := B8) (k := (k / 8)) (x := ([y].getD (k / 8) 0)) ((getD_at 0 (k := (k / 8)) (by first | omega | (simp; omega))))))) fun a HF => ?_
  replace HF := HF.sp 27 (vB y) rfl (by rw [show k / 8 = 0 by omega]; rfl)
  refine fp HF 2 11 [(29, vI (Int.tmod (k : Int) 8))] fun a HF => ?_
  replace HF := HF.sp 29 (vI (k % 8 : Nat)) rfl (qaf .i64 _ 8)
  refine fy HF HM 13 rfl rfl rfl (v := vB (y / 2 ^ (k % 8) : Nat)) (Yl.shrN (m := y) (n := (k % 8)) rfl rfl rfl (by show _ ≤ 8; omega)) fun a HF => ?_
  refine fp HF 1 14 [(31, vB (Int.tmod ((y / 2 ^ (k % 8) : Nat) : Int) 2))] fun a HF => ?_
  replace HF := HF.sp 31 (vB ((y / 2 ^ (k % 8)) % 2 : Nat)) rfl (qaf .u8 _ 2)
  refine fp HF 1 15 [(32, vI (IntKind.i64.wrap (((y / 2 ^ (k % 8)) % 2 : Nat) : Int)))] fun a HF => ?_
  replace HF := HF.sp 32 (vI ((y / 2 ^ (k % 8)) % 2 : Nat)) rfl (qi rfl (by omega))
  refine fy HF HM 16 rfl rfl rfl (v := vP g11 ((39 - k) * 1)) (Yl.ix0 g11 (39 - k) 1 rfl rfl rfl) fun a HF => ?_
  refine fo HF 17 rfl rfl ?_
  refine zu HF HM (i := 0) rfl rfl rfl rfl (by kernel_rfl) rfl rfl (by rw [List.length_map, qao]; omega) ?_
  clear HM; intro w6_17 HM
  replace HM := HM.asRow (i := 0) (ys := (qan y (k + 1)).map I64v) rfl ((qod I64v (qan y k) (39 - k) (y / 2 ^ (k % 8) % 2) (by rw [qao]; omega)).trans (by rw [show k % 8 = k by omega, qkv (by omega)]))
  refine qb rfl (qa ?_)
  refine fp HF 2 0 [(16, vI (IntKind.i64.wrap ((k : Int) + 1)))] fun a HF => ?_
  replace HF := HF.sp 16 (vI (k + 1 : Nat)) rfl (qi (by omega) (by omega))
  refine fp HF 1 2 [(5, vI (k + 1 : Nat))] fun a HF => ?_
  refine qb rfl ?_
  exact ⟨_, (by omega), k + 1, by omega, rfl, HF.sub (by kernel_rfl), HM.picks [0] (by decide) rfl⟩
 have hd14 := of_decide_eq_false hb14
 obtain rfl : k = 8 := by omega
 refine qc HF rfl (wp_exit (wp_seq (wp_block ?_)))
 refine qo (fun mS aS wS => ∃ (j : Nat), (j ≤ 40) ∧ (trimL ((qan y 8).take j) = trimL (qan y 8)) ∧ mS = 0 + j ∧ Fr aS 52 [] [(14, .bool false), (5, vI 8), (11, vS g11 40 40), (4, vS g11 j 40), (3, vI 8), (2, .slice none 0 0), (0, .slice A 1 c)] ∧ Mem w wS [.row (vS g11 40 40) 40 ((qan y 8).map I64v) 3 1]) (m := 0 + 40) ⟨40, by omega, by rw [List.take_of_length_le (by rw [qao]; omega)], rfl, HF.sub (by kernel_rfl), HM.picks [0] (by decide) rfl⟩ ?_
 clear HF HM; rintro mS a w_ ⟨j, hj, ht, rfl, HF, HM⟩
 have hbl := qao y 8
 refine wp_seq (wp_seq (qa ?_))
 refine fp HF 1 0 [(34, vS g11 j 40)] fun a HF => ?_
 refine fy HF HM 1 rfl rfl rfl (Yl.len rfl rfl (by kernel_rfl)) fun a HF => ?_
 refine fp HF 2 2 [(37, .bool (decide ((j : Int) > (0 : Int))))] fun a HF => ?_
 rcases HF.tf 37 rfl with ⟨hb37, HF⟩ | ⟨hb37, HF⟩
 ·
  have hd37 := of_decide_eq_true hb37
  have hj0 : 0 < j := by omega
  refine fp HF 2 4 [(39, vS g11 j 40), (38, vS g11 j 40)] fun a HF => ?_
  refine fy HF HM 6 rfl rfl rfl (Yl.len rfl rfl (by kernel_rfl)) fun a HF => ?_
  refine fp HF 1 7 [(41, vI (IntKind.i64.wrap ((j : Int) - 1)))] fun a HF => ?_
  replace HF := HF.sp 41 (vI (j - 1 : Nat)) rfl (qi (by omega) (by omega))
  refine fy HF HM 8 rfl rfl rfl (v := vP g11 ((j - 1) * 1)) (Yl.ix0 g11 (j - 1) 1 rfl rfl rfl) fun a HF => ?_
  refine fy HF HM 9 rfl rfl rfl (v := vI ((qan y 8).getD (j - 1) 0)) (Yl.qf rfl rfl (by kernel_rfl) (fun _ h => h.qad (i := 0) rfl (k := (j - 1)) (qz (F := I64v) (k := (j - 1)) (x := ((qan y 8).getD (j - 1) 0)) ((getD_at 0 (k := (j - 1)) (by first | omega | (simp; omega))))))) fun a HF => ?_
  refine fp HF 2 10 [(45, .bool ((((qan y 8).getD (j - 1) 0) : Int) == (0 : Int)))] fun a HF => ?_
  refine qb rfl ?_
  rcases HF.tf 45 rfl with ⟨hb45, HF⟩ | ⟨hb45, HF⟩
  ·
   have hd45 := eq_of_beq hb45
   refine qd HF rfl (wp_skip (wp_block (qa ?_)))
   refine fp HF 2 0 [(47, vS g11 j 40), (46, vS g11 j 40)] fun a HF => ?_
   refine fy HF HM 2 rfl rfl rfl (Yl.len rfl rfl (by kernel_rfl)) fun a HF => ?_
   refine fp HF 1 3 [(49, vI (IntKind.i64.wrap ((j : Int) - 1)))] fun a HF => ?_
   replace HF := HF.sp 49 (vI (j - 1 : Nat)) rfl (qi (by omega) (by omega))
   refine fy HF HM 4 rfl rfl rfl (v := vS g11 (j - 1) 40) (Yl.qbx qau (j := j - 1) rfl rfl rfl (by omega)) fun a HF => ?_
   refine fp HF 1 5 [(4, vS g11 (j - 1) 40)] fun a HF => ?_
   refine qb rfl ?_
   exact ⟨_, (by omega), (j - 1), by omega, qjk (by omega) (by omega) (by omega) ht, rfl, HF.sub (by kernel_rfl), HM.picks [0] (by decide) rfl⟩
  have hd45 := ne_of_beq_false hb45
  refine qc HF rfl (wp_exit (wp_seq (qa ?_)))
  refine fp HF 2 0 [(2, vS g11 j 40)] fun a HF => ?_
  refine qb rfl (wp_ret ?_)
  have hjt := qdu (l := qan y 8) (k := j) (by omega) (fun _ => by omega) ht
  have hjl : (bitsOf y).length = j := by rw [← qg5, hjt, List.length_take]; omega
  have HM2 := HM.cutRow (i := 0) (m := (bitsOf y).length) (ys := (bitsOf y).map I64v) rfl (by omega) (by rw [Nat.mul_one, ← List.map_take, hjl, ← hjt]; rfl)
  exact ret1 rfl HF (.tmp HF rfl) (⟨⟨some ⟨g11, 0, none⟩, 40, by rw [hjl], HM2.own (i := 0) rfl, by omega⟩, HM.below⟩)
 have hd37 := of_decide_eq_false hb37
 refine fp HF 8 4 [(45, .bool false)] fun a HF => ?_
 refine qb rfl (qc HF rfl (wp_exit (wp_seq (qa ?_))))
 refine fp HF 2 0 [(2, vS g11 j 40)] fun a HF => ?_
 refine qb rfl (wp_ret ?_)
 have hjt := qdu (l := qan y 8) (k := j) (by omega) (fun _ => by omega) ht
 have hjl : (bitsOf y).length = j := by rw [← qg5, hjt, List.length_take]; omega
 have HM2 := HM.cutRow (i := 0) (m := (bitsOf y).length) (ys := (bitsOf y).map I64v) rfl (by omega) (by rw [Nat.mul_one, ← List.map_take, hjl, ← hjt]; rfl)
 exact ret1 rfl HF (.tmp HF rfl) (⟨⟨some ⟨g11, 0, none⟩, 40, by rw [hjl], HM2.own (i := 0) rfl, by omega⟩, HM.below⟩)
theorem qjo (w : World) : Calls Tryz.prog 131 #[.int .u64 4374732215] w (PolIs w genP) := qqx 4374732215 (by decide) w
theorem genlen : 0 < genP.length := by rw [qc8]; decide
theorem qkx (A : Option Addr) (c : Nat) (w : World) (hr : Rd w w.heap.size 1 A 1 ([0].map B8)) :
    Calls Tryz.prog 103 #[.slice A 1 c] w (Is w (.int .u32 (crcT 0 : Int))) := by
 refine qg (vs := [.slice A 1 c]) Tryz.func103 rfl rfl (by kernel_rfl) (σ0 := [(0, .slice A 1 c)]) rfl ?_
 intro a HF
 have HM := Mem.start w
 refine wp_seq (qa ?_)
 refine fp HF 1 0 [(2, vW 0)] fun a HF => ?_
 refine qb rfl (wp_seq (qa ?_))
 refine fp HF 1 0 [(8, .slice A 1 c)] fun a HF => ?_
 refine fo HF 1 rfl rfl ?_
 refine e_cl HF [.slice A 1 c] rfl rfl (qmh _ _ 0 (by omega) _ (HM.old hr)) ?_
 rintro _ w9 ⟨⟨A9, c9, rfl, ho, hc9⟩, hbw⟩
 refine ⟨_, rfl, ?_⟩
 replace HM := HM.callRow hbw ho
 clear HF; intro a HF
 refine fo HF 2 rfl rfl ?_
 refine e_cl HF [vQ 4374732215] rfl rfl (qjo _) ?_
 rintro _ w10 ⟨⟨A10, c10, rfl, ho, hc10⟩, hbw⟩
 refine ⟨_, rfl, ?_⟩
 replace HM := HM.callRow hbw ho
 clear HF; intro a HF
 refine fo HF 3 rfl rfl ?_
 refine e_cl HF [.slice A9 ((bitsOf 0).length) c9, .slice A10 ((genP).length) c10] rfl rfl (qg7 _ _ _ _ (bitsOf 0) genP _ (qma _) (ql9 _) (qmc _) (qmb _) genlen (HM.rd (i := 1) rfl) (HM.rd (i := 0) rfl) (by have := qh3 0; omega) (by rw [qc8]; decide)) ?_
 rintro _ w11 ⟨⟨vq, X, cX, rfl, hd1, hd2⟩, hbw⟩
 refine ⟨_, rfl, ?_⟩
 replace HM := HM.call hbw
 clear HF; intro a HF
 refine fp HF 5 4 [(4, .slice X ((linR 0).length) cX)] fun a HF => ?_
 refine qb rfl ?_
 have hl32 := qmd 0
 have hl0 : (linR 0).length = 0 := by rw [qqw]; rfl
 refine wp_seq (qa ?_)
 refine fp HF 1 0 [(5, vW 0)] fun a HF => ?_
 refine qb rfl (wp_seq (wp_seq (qa ?_)))
 refine fp HF 1 0 [(6, vI 0)] fun a HF => ?_
 refine qb rfl (wp_block ?_)
 replace HM := HM.picks (fs' := []) [] (by decide) rfl
 refine qo (fun mS aS wS => ∃ (k : Nat), (k ≤ (linR 0).length) ∧ mS = (linR 0).length - k ∧ Fr aS 31 [] [(6, vI k), (5, vW (remUp (linR 0) k)), (4, .slice X ((linR 0).length) cX), (2, vW 0)] ∧ Mem w wS []) (m := (linR 0).length - 0) ⟨0, Nat.zero_le _, rfl, HF.sub (by kernel_rfl), HM.picks [] (by decide) rfl⟩ ?_
 clear HF HM; rintro mS a w_ ⟨k, hk, rfl, HF, HM⟩
 refine wp_seq (wp_seq (qa ?_))
 refine fp HF 2 0 [(15, .slice X ((linR 0).length) cX), (14, vI k)] fun a HF => ?_
 refine fy HF HM 2 rfl rfl rfl (Yl.len rfl rfl (by kernel_rfl)) fun a HF => ?_
 refine fp HF 1 3 [(17, .bool (decide ((k : Int) < (((linR 0).length : Nat) : Int))))] fun a HF => ?_
 refine qb rfl ?_
 rcases HF.tf 17 rfl with ⟨hb17, HF⟩ | ⟨hb17, HF⟩
 ·
  have hd17 := of_decide_eq_true hb17
  omega
 have hd17 := of_decide_eq_false hb17
 refine qc HF rfl (wp_exit (wp_seq (qa ?_)))
 refine fp HF 2 0 [(2, vW (remUp (linR 0) k))] fun a HF => ?_
 refine qb rfl (wp_ret ?_)
 exact ret1 rfl HF (.tmp HF rfl) (⟨by rw [show k = (linR 0).length by omega, qjm, qqv, qiq 0 (by omega)], HM.below⟩)
theorem qng (A : Option Addr) (c y : Nat) (hy : y < 256) (hy0 : y ≠ 0) (w : World) (hr : Rd w w.heap.size 1 A 1 ([y].map B8)) :
    Calls Tryz.prog 103 #[.slice A 1 c] w (Is w (.int .u32 (crcT y : Int))) := by
 refine qg (vs := [.slice A 1 c]) Tryz.func103 rfl rfl (by kernel_rfl) (σ0 := [(0, .slice A 1 c)]) rfl ?_
 intro a HF
 have HM := Mem.start w
 refine wp_seq (qa ?_)
 refine fp HF 1 0 [(2, vW 0)] fun a HF => ?_
 refine qb rfl (wp_seq (qa ?_))
 refine fp HF 1 0 [(8, .slice A 1 c)] fun a HF => ?_
 refine fo HF 1 rfl rfl ?_
 refine e_cl HF [.slice A 1 c] rfl rfl (qmh _ _ y (by omega) _ (HM.old hr)) ?_
 rintro _ w9 ⟨⟨A9, c9, rfl, ho, hc9⟩, hbw⟩
 refine ⟨_, rfl, ?_⟩
 replace HM := HM.callRow hbw ho
 clear HF; intro a HF
 refine fo HF 2 rfl rfl ?_
 refine e_cl HF [vQ 4374732215] rfl rfl (qjo _) ?_
 rintro _ w10 ⟨⟨A10, c10, rfl, ho, hc10⟩, hbw⟩
 refine ⟨_, rfl, ?_⟩
 replace HM := HM.callRow hbw ho
 clear HF; intro a HF
 refine fo HF 3 rfl rfl ?_
 refine e_cl HF [.slice A9 ((bitsOf y).length) c9, .slice A10 ((genP).length) c10] rfl rfl (qg7 _ _ _ _ (bitsOf y) genP _ (qma _) (ql9 _) (qmc _) (qmb _) genlen (HM.rd (i := 1) rfl) (HM.rd (i := 0) rfl) (by have := qh3 y; omega) (by rw [qc8]; decide)) ?_
 rintro _ w11 ⟨⟨vq, X, cX, rfl, hd1, hd2⟩, hbw⟩
 obtain ⟨ho, hcX⟩ := hd2 (by rw [qc8]; exact qsp y hy hy0)
 refine ⟨_, rfl, ?_⟩
 replace HM := HM.callRow hbw ho
 clear HF; intro a HF
 refine fp HF 5 4 [(4, .slice X ((linR y).length) cX)] fun a HF => ?_
 refine qb rfl ?_
 have hl32 := qmd y
 refine wp_seq (qa ?_)
 refine fp HF 1 0 [(5, vW 0)] fun a HF => ?_
 refine qb rfl (wp_seq (wp_seq (qa ?_)))
 refine fp HF 1 0 [(6, vI 0)] fun a HF => ?_
 refine qb rfl (wp_block ?_)
 replace HM := HM.picks (fs' := [.row (.slice X ((linR y).length) cX) ((linR y).length) ((linR y).map I64v) 3 1]) [0] (by decide) rfl
 refine qo (fun mS aS wS => ∃ (k : Nat), (k ≤ (linR y).length) ∧ mS = (linR y).length - k ∧ Fr aS 31 [] [(6, vI k), (5, vW (remUp (linR y) k)), (4, .slice X ((linR y).length) cX), (2, vW 0)] ∧ Mem w wS [.row (.slice X ((linR y).length) cX) ((linR y).length) ((linR y).map I64v) 3 1]) (m := (linR y).length - 0) ⟨0, Nat.zero_le _, rfl, HF.sub (by kernel_rfl), HM.picks [0] (by decide) rfl⟩ ?_
 clear HF HM; rintro mS a w_ ⟨k, hk, rfl, HF, HM⟩
 refine wp_seq (wp_seq (qa ?_))
 refine fp HF 2 0 [(15, .slice X ((linR y).length) cX), (14, vI k)] fun a HF => ?_
 refine fy HF HM 2 rfl rfl rfl (Yl.len rfl rfl (by kernel_rfl)) fun a HF => ?_
 refine fp HF 1 3 [(17, .bool (decide ((k : Int) < (((linR y).length : Nat) : Int))))] fun a HF => ?_
 refine qb rfl ?_
 rcases HF.tf 17 rfl with ⟨hb17, HF⟩ | ⟨hb17, HF⟩
 ·
  have hd17 := of_decide_eq_true hb17
  have hk31 : k < 32 := by omega
  refine qd HF rfl (wp_skip (wp_seq (wp_block (wp_seq (qa ?_)))))
  refine fp HF 2 0 [(21, vI k), (20, .slice X ((linR y).length) cX)] fun a HF => ?_
  obtain ⟨gX, rfl⟩ := zh (HM.own (i := 0) rfl) (Nat.lt_of_le_of_lt (Nat.zero_le _) (show k < (linR y).length from by omega))
  refine fy HF HM 2 rfl rfl rfl (v := vP gX (k * 1)) (Yl.ix0 gX k 1 rfl rfl rfl) fun a HF => ?_
  refine fy HF HM 3 rfl rfl rfl (v := vI ((linR y).getD k 0)) (Yl.qf rfl rfl (by kernel_rfl) (fun _ h => h.qad (i := 0) rfl (k := k) (qz (F := I64v) (k := k) (x := ((linR y).getD k 0)) ((getD_at 0 (k := k) (by first | omega | (simp; omega))))))) fun a HF => ?_
  refine fp HF 1 4 [(24, .bool ((((linR y).getD k 0) : Int) == (1 : Int)))] fun a HF => ?_
  refine qb rfl ?_
  rcases HF.tf 24 rfl with ⟨hb24, HF⟩ | ⟨hb24, HF⟩
  ·
   have hd24 := eq_of_beq hb24
   have hrs := quw (linR y) hk31
   refine qd HF rfl (qa ?_)
   refine fp HF 3 0 [(27, vI (IntKind.i64.wrap (31 - (k : Int)))), (25, vW (remUp (linR y) k))] fun a HF => ?_
   replace HF := HF.sp 27 (vI (31 - k : Nat)) rfl (qi (by omega) (by omega))
   refine fy HF HM 3 rfl rfl rfl (v := vW (1 * 2 ^ (31 - k) : Nat)) (Yl.shlN (m := 1) (n := (31 - k)) rfl rfl rfl (by show _ ≤ 32; omega) (pow31 k)) fun a HF => ?_
   refine fp HF 1 4 [(29, vW (IntKind.u32.wrap ((remUp (linR y) k : Int) + ((1 * 2 ^ (31 - k) : Nat) : Int))))] fun a HF => ?_
   replace HF := HF.sp 29 (vW (remUp (linR y) (k + 1))) rfl (zq (by rw [qc0, if_pos (by omega)]; omega) (by rw [qc0, if_pos (by omega)]; omega))
   refine fp HF 1 5 [(5, vW (remUp (linR y) (k + 1)))] fun a HF => ?_
   refine qb rfl (qa ?_)
   refine fp HF 2 0 [(19, vI (IntKind.i64.wrap ((k : Int) + 1)))] fun a HF => ?_
   replace HF := HF.sp 19 (vI (k + 1 : Nat)) rfl (qi (by omega) (by omega))
   refine fp HF 1 2 [(6, vI (k + 1 : Nat))] fun a HF => ?_
   refine qb rfl ?_
   exact ⟨_, (by omega), k + 1, by omega, rfl, HF.sub (by kernel_rfl), HM.picks [0] (by decide) rfl⟩
  have hd24 := ne_of_beq_false hb24
  replace HF := HF.as (t := 5) (u := .int .u32 (remUp (linR y) (k + 1) : Int)) rfl (by rw [qc0, if_neg (by omega), Nat.add_zero])
  refine qc HF rfl (wp_skip (qa ?_))
  refine fp HF 2 0 [(19, vI (IntKind.i64.wrap ((k : Int) + 1)))] fun a HF => ?_
  replace HF := HF.sp 19 (vI (k + 1 : Nat)) rfl (qi (by omega) (by omega))
  refine fp HF 1 2 [(6, vI (k + 1 : Nat))] fun a HF => ?_
  refine qb rfl ?_
  exact ⟨_, (by omega), k + 1, by omega, rfl, HF.sub (by kernel_rfl), HM.picks [0] (by decide) rfl⟩
 have hd17 := of_decide_eq_false hb17
 refine qc HF rfl (wp_exit (wp_seq (qa ?_)))
 refine fp HF 2 0 [(2, vW (remUp (linR y) k))] fun a HF => ?_
 refine qb rfl (wp_ret ?_)
 exact ret1 rfl HF (.tmp HF rfl) (⟨by rw [show k = (linR y).length by omega, qjm, qqv, qiq y (by omega)], HM.below⟩)
theorem qnh (A : Option Addr) (c y : Nat) (hy : y < 256) (w : World) (hr : Rd w w.heap.size 1 A 1 ([y].map B8)) : Calls Tryz.prog 103 #[.slice A 1 c] w (Is w (.int .u32 (crcT y : Int))) := by
 by_cases h : y = 0
 ·subst h; exact qkx A c w hr
 ·exact qng A c y hy h w hr
theorem qqy (c : Nat) (hc : c < 4294967296) (A : Option Addr) (n cp : Nat) (l : List Nat) (w : World) (hr : Rd w w.heap.size 1 A n (l.map B8)) (hln : l.length = n) (hn : n ≤ 1000000000) (hl : ∀ b ∈ l, b < 256) :
    Calls Tryz.prog 77 #[.int .u32 (c : Int), .slice A n cp] w (Is w (.int .u32 ((4294967295 - qy (4294967295 - c) l : Nat) : Int))) := by
 refine qg (vs := [vW c, .slice A n cp]) Tryz.func77 rfl rfl (by kernel_rfl) (σ0 := [(0, vW c), (1, .slice A n cp)]) rfl ?_
 intro a HF
 have HM := Mem.start w
 refine wp_seq (qa ?_)
 refine fp HF 1 0 [(4, vW 0)] fun a HF => ?_
 refine qb rfl (wp_seq (qa ?_))
 refine fp HF 2 0 [(7, vW (IntKind.u32.wrap (4294967295 - (c : Int))))] fun a HF => ?_
 replace HF := HF.sp 7 (vW (4294967295 - c : Nat)) rfl (zq (by omega) (by omega))
 refine fp HF 1 2 [(0, vW (4294967295 - c : Nat))] fun a HF => ?_
 refine qb rfl (wp_seq (wp_seq (qa ?_)))
 refine fp HF 1 0 [(5, vI 0)] fun a HF => ?_
 refine qb rfl (wp_block ?_)
 refine qo (fun mS aS wS => ∃ (k : Nat), (k ≤ n) ∧ mS = n - k ∧ Fr aS 29 [] [(5, vI k), (0, vW (qy (4294967295 - c) (l.take k))), (4, vW 0), (1, .slice A n cp)] ∧ Mem w wS []) (m := n - 0) ⟨0, Nat.zero_le _, rfl, HF.sub (by kernel_rfl), HM.picks [] (by decide) rfl⟩ ?_
 clear HF HM; rintro mS a w_ ⟨k, hk, rfl, HF, HM⟩
 have hcr := qco (l.take k) (c := 4294967295 - c) (by omega) (qjz hl k)
 refine wp_seq (wp_seq (qa ?_))
 refine fp HF 2 0 [(9, .slice A n cp), (8, vI k)] fun a HF => ?_
 refine fy HF HM 2 rfl rfl rfl (Yl.len rfl rfl (by kernel_rfl)) fun a HF => ?_
 refine fp HF 1 3 [(11, .bool (decide ((k : Int) < (n : Int))))] fun a HF => ?_
 refine qb rfl ?_
 rcases HF.tf 11 rfl with ⟨hb11, HF⟩ | ⟨hb11, HF⟩
 ·
  have hd11 := of_decide_eq_true hb11
  have hk11 : k < n := by omega
  have hxk := getD_lt hl (k := k) (by omega)
  have hy8 : (qy (4294967295 - c) (l.take k) % 256 ^^^ l.getD k 0) < 256 := Nat.xor_lt_two_pow (n := 8) (by omega) (by omega)
  refine qd HF rfl (wp_skip (wp_seq (wp_block (qa ?_))))
  refine fp HF 2 0 [(15, vW (IntKind.u32.wrap (Int.tdiv (qy (4294967295 - c) (l.take k) : Int) 256)))] fun a HF => ?_
  replace HF := HF.sp 15 (vW ((qy (4294967295 - c) (l.take k)) / 256 : Nat)) rfl (qcv .u32 256 (by show _ ≤ 4294967295; omega))
  refine fp HF 2 2 [(17, vW (Int.tmod (qy (4294967295 - c) (l.take k) : Int) 256))] fun a HF => ?_
  replace HF := HF.sp 17 (vW ((qy (4294967295 - c) (l.take k)) % 256 : Nat)) rfl (qaf .u32 _ 256)
  refine fp HF 1 4 [(18, vB (IntKind.u8.wrap (((qy (4294967295 - c) (l.take k)) % 256 : Nat) : Int)))] fun a HF => ?_
  replace HF := HF.sp 18 (vB (qy (4294967295 - c) (l.take k) % 256 : Nat)) rfl ((qdj (qy (4294967295 - c) (l.take k) % 256)).trans (by rw [Nat.mod_mod]))
  refine fp HF 2 5 [(20, vI k), (19, .slice A n cp)] fun a HF => ?_
  obtain ⟨gA, oA, rfl, _⟩ := hr.qp (Nat.lt_of_le_of_lt (Nat.zero_le _) (show k < n from by omega)) (by decide)
  refine fy HF HM 7 rfl rfl rfl (v := vP gA (oA + k * 1)) (Yl.ix gA oA k 1 rfl rfl rfl) fun a HF => ?_
  have hx49 := getD_lt hl (k := k) (by first | omega | (simp; omega))
  refine fy HF HM 8 rfl rfl rfl (v := vB (l.getD k 0)) (Yl.qf rfl rfl (by kernel_rfl) (fun _ h => (h.old hr).q7 (k := k) (qz (F := B8) (k := k) (x := (l.getD k 0)) ((getD_at 0 (k := k) (by first | omega | (simp; omega))))))) fun a HF => ?_
  refine fp HF 1 9 [(23, vB (IntKind.u8.wrap (BitVec.ofInt (IntKind.u8).bits ((qy (4294967295 - c) (l.take k) % 256 : Nat) : Int) ^^^ BitVec.ofInt (IntKind.u8).bits ((l.getD k 0) : Int)).toNat))] fun a HF => ?_
  replace HF := HF.sp 23 (vB ((qy (4294967295 - c) (l.take k) % 256) ^^^ (l.getD k 0) : Nat)) rfl (qvh (m := qy (4294967295 - c) (l.take k) % 256) (n := (l.getD k 0)) (by omega) (by omega))
  refine fo HF 10 rfl rfl ?_
  refine qt HF HM (vs := [(0, vB ((qy (4294967295 - c) (l.take k) % 256) ^^^ (l.getD k 0) : Nat))]) (cs := #[vB ((qy (4294967295 - c) (l.take k) % 256) ^^^ (l.getD k 0) : Nat)]) rfl ei_u8 (by decide) rfl (by kernel_rfl) rfl (by decide) ?_
  clear HF HM; intro a w24 g24 HF HM
  refine fo HF 11 rfl rfl ?_
  refine e_is HF HM [vS g24 1 1] (vW (crcT (qy (4294967295 - c) (l.take k) % 256 ^^^ l.getD k 0))) rfl rfl (qnh _ _ (qy (4294967295 - c) (l.take k) % 256 ^^^ l.getD k 0) hy8 _ (HM.rdBlk (i := 0) (n := 1) (size := 1) rfl rfl)) fun w25 hbw HM a HF => ?_
  refine fp HF 1 12 [(26, vW (IntKind.u32.wrap (BitVec.ofInt (IntKind.u32).bits (((qy (4294967295 - c) (l.take k)) / 256 : Nat) : Int) ^^^ BitVec.ofInt (IntKind.u32).bits (crcT (qy (4294967295 - c) (l.take k) % 256 ^^^ l.getD k 0) : Int)).toNat))] fun a HF => ?_
  replace HF := HF.sp 26 (vW (qy (4294967295 - c) (l.take (k + 1)))) rfl (by have h := qfb (m := (qy (4294967295 - c) (l.take k)) / 256) (n := crcT (qy (4294967295 - c) (l.take k) % 256 ^^^ l.getD k 0)) (by omega) (qoi (by omega)); rw [qff (by omega), qf6]; exact h)
  refine fp HF 1 13 [(0, vW (qy (4294967295 - c) (l.take (k + 1))))] fun a HF => ?_
  refine qb rfl (qa ?_)
  refine fp HF 2 0 [(13, vI (IntKind.i64.wrap ((k : Int) + 1)))] fun a HF => ?_
  replace HF := HF.sp 13 (vI (k + 1 : Nat)) rfl (qi (by omega) (by omega))
  refine fp HF 1 2 [(5, vI (k + 1 : Nat))] fun a HF => ?_
  refine qb rfl ?_
  exact ⟨_, (by omega), k + 1, by omega, rfl, HF.sub (by kernel_rfl), HM.picks [] (by decide) rfl⟩
 have hd11 := of_decide_eq_false hb11
 refine qc HF rfl (wp_exit (wp_seq (qa ?_)))
 refine fp HF 2 0 [(28, vW (IntKind.u32.wrap (4294967295 - (qy (4294967295 - c) (l.take k) : Int))))] fun a HF => ?_
 replace HF := HF.sp 28 (vW (4294967295 - (qy (4294967295 - c) (l.take k)) : Nat)) rfl (zq (by omega) (by omega))
 refine fp HF 1 2 [(4, vW (4294967295 - (qy (4294967295 - c) (l.take k)) : Nat))] fun a HF => ?_
 refine qb rfl (wp_ret ?_)
 exact ret1 rfl HF (.tmp HF rfl) (⟨by rw [List.take_of_length_le (by omega)], HM.below⟩)
theorem qqz (A : Option Addr) (n cp : Nat) (l : List Nat) (w : World) (hr : Rd w w.heap.size 1 A n (l.map B8)) (hln : l.length = n) (hn : n ≤ 1000000000) (hl : ∀ b ∈ l, b < 256) :
    Calls Tryz.prog 49 #[.slice A n cp] w (Is w (.int .u32 (qu l : Int))) := by
 refine qg (vs := [.slice A n cp]) Tryz.func49 rfl rfl (by kernel_rfl) (σ0 := [(0, .slice A n cp)]) rfl ?_
 intro a HF
 have HM := Mem.start w
 refine wp_seq (qa ?_)
 refine fp HF 1 0 [(2, vW 0)] fun a HF => ?_
 refine qb rfl (wp_seq (qa ?_))
 refine fp HF 1 0 [(3, .slice A n cp)] fun a HF => ?_
 refine fo HF 1 rfl rfl ?_
 refine e_is HF HM [vW 0, .slice A n cp] (vW (qu l)) rfl rfl (qqy 0 (by decide) _ _ _ l _ (HM.old hr) hln hn hl) fun w4 hbw HM a HF => ?_
 refine fp HF 1 2 [(2, vW (qu l))] fun a HF => ?_
 refine qb rfl (wp_ret ?_)
 exact ret1 rfl HF (.tmp HF rfl) (⟨rfl, HM.below⟩)
theorem qni (A : Option Addr) (n cp : Nat) (l : List Nat) (w : World) (hr : Rd w w.heap.size 1 A n (l.map B8)) (hln : l.length = n) (hn : n ≤ 100000000) (hl : ∀ b ∈ l, b < 256) :
    Calls Tryz.prog 15 #[.slice A n cp] w (qbi w (sealL l)) := by
 refine qg (vs := [.slice A n cp]) Tryz.func15 rfl rfl (by kernel_rfl) (σ0 := [(0, .slice A n cp)]) rfl ?_
 intro a HF
 have HM := Mem.start w
 refine wp_seq (qa ?_)
 refine fp HF 1 0 [(2, .slice none 0 0)] fun a HF => ?_
 refine qb rfl (wp_seq (qa ?_))
 refine fp HF 1 0 [(4, .slice A n cp)] fun a HF => ?_
 refine fo HF 1 rfl rfl ?_
 refine e_is HF HM [.slice A n cp] (vW (qu l)) rfl rfl (qqz _ _ _ l _ (HM.old hr) hln (by omega) hl) fun w5 hbw HM a HF => ?_
 refine fp HF 1 2 [(3, vW (qu l))] fun a HF => ?_
 refine qb rfl ?_
 have hcs := qcp l
 refine wp_seq (qa ?_)
 refine fo HF 0 rfl rfl ?_
 refine qri HF HM rfl ei_u8 rfl (by decide) ?_
 clear HF HM; intro a w6 g6 HF HM
 refine fp HF 1 1 [(7, .slice A n cp)] fun a HF => ?_
 refine fo HF 2 rfl rfl ?_
 refine qw HF HM (i := 0) rfl ei_u8 rfl rfl rfl (news := (l.map B8)) (HM.old hr) (qgd _) (by omega) (by omega) rfl (by decide) ?_
 clear HF HM; intro a w8 A8 c8 HF HM hc8
 refine fp HF 2 3 [(10, vW (Int.tmod (qu l : Int) 256))] fun a HF => ?_
 replace HF := HF.sp 10 (vW ((qu l) % 256 : Nat)) rfl (qaf .u32 _ 256)
 refine fp HF 1 5 [(11, vB (IntKind.u8.wrap (((qu l) % 256 : Nat) : Int)))] fun a HF => ?_
 replace HF := HF.sp 11 (vB (qu l % 256 : Nat)) rfl ((qdj (qu l % 256)).trans (by rw [Nat.mod_mod]))
 refine fp HF 2 6 [(13, vW (IntKind.u32.wrap (Int.tdiv (qu l : Int) 256)))] fun a HF => ?_
 replace HF := HF.sp 13 (vW ((qu l) / 256 : Nat)) rfl (qcv .u32 256 (by show _ ≤ 4294967295; omega))
 refine fp HF 1 8 [(14, vW (Int.tmod (((qu l) / 256 : Nat) : Int) 256))] fun a HF => ?_
 replace HF := HF.sp 14 (vW (((qu l) / 256) % 256 : Nat)) rfl (qaf .u32 _ 256)
 refine fp HF 1 9 [(15, vB (IntKind.u8.wrap ((((qu l) / 256) % 256 : Nat) : Int)))] fun a HF => ?_
 replace HF := HF.sp 15 (vB (qu l / 256 % 256 : Nat)) rfl ((qdj (qu l / 256 % 256)).trans (by rw [Nat.mod_mod]))
 refine fp HF 2 10 [(17, vW (IntKind.u32.wrap (Int.tdiv (qu l : Int) 65536)))] fun a HF => ?_
 replace HF := HF.sp 17 (vW ((qu l) / 65536 : Nat)) rfl (qcv .u32 65536 (by show _ ≤ 4294967295; omega))
 refine fp HF 1 12 [(18, vW (Int.tmod (((qu l) / 65536 : Nat) : Int) 256))] fun a HF => ?_
 replace HF := HF.sp 18 (vW (((qu l) / 65536) % 256 : Nat)) rfl (qaf .u32 _ 256)
 refine fp HF 1 13 [(19, vB (IntKind.u8.wrap ((((qu l) / 65536) % 256 : Nat) : Int)))] fun a HF => ?_
 replace HF := HF.sp 19 (vB (qu l / 65536 % 256 : Nat)) rfl ((qdj (qu l / 65536 % 256)).trans (by rw [Nat.mod_mod]))
 refine fp HF 2 14 [(21, vW (IntKind.u32.wrap (Int.tdiv (qu l : Int) 16777216)))] fun a HF => ?_
 replace HF := HF.sp 21 (vW ((qu l) / 16777216 : Nat)) rfl (qcv .u32 16777216 (by show _ ≤ 4294967295; omega))
 refine fp HF 1 16 [(22, vB (IntKind.u8.wrap (((qu l) / 16777216 : Nat) : Int)))] fun a HF => ?_
 replace HF := HF.sp 22 (vB (((qu l) / 16777216) % 256 : Nat)) rfl (qdj ((qu l) / 16777216))
 refine fo HF 17 rfl rfl ?_
 refine qt HF HM (vs := [(0, vB (qu l % 256 : Nat)), (1, vB (qu l / 256 % 256 : Nat)), (2, vB (qu l / 65536 % 256 : Nat)), (3, vB (((qu l) / 16777216) % 256 : Nat))]) (cs := #[vB (qu l % 256 : Nat), vB (qu l / 256 % 256 : Nat), vB (qu l / 65536 % 256 : Nat), vB (((qu l) / 16777216) % 256 : Nat)]) rfl ei_u8 (by decide) rfl (by kernel_rfl) rfl (by decide) ?_
 clear HF HM; intro a w23 g23 HF HM
 refine fo HF 18 rfl rfl ?_
 refine qw HF HM (i := 1) rfl ei_u8 rfl rfl rfl (news := ((le4 (qu l)).map B8)) (HM.rdBlk (i := 0) (n := 4) (size := 1) rfl rfl) (qgd _) (by omega) (by omega) rfl (by decide) ?_
 clear HF HM; intro a w24 A24 c24 HF HM hc24
 refine fp HF 1 19 [(2, .slice A24 (0 + n + 4) c24)] fun a HF => ?_
 refine qb rfl ?_
 have hnA24 : 0 + n + 4 = (sealL l).length := by rw [qbj]; omega
 replace HM := HM.reRow (i := 1) (ys := (sealL l).map B8) rfl hnA24 (by simp [sealL])
 rw [hnA24] at hc24
 replace HF := HF.as (t := 2) (u := .slice A24 ((sealL l).length) c24) rfl (by rw [hnA24])
 replace HF := HF.as (t := 24) (u := .slice A24 ((sealL l).length) c24) rfl (by rw [hnA24])
 refine wp_ret ?_
 replace HM := HM.picks (fs' := [.row (.slice A24 ((sealL l).length) c24) ((sealL l).length) ((sealL l).map B8) 5 1]) [1] (by decide) rfl
 exact ret1 rfl HF (.tmp HF rfl) (⟨⟨_, _, rfl, HM.own (i := 0) rfl, hc24⟩, HM.below⟩)
theorem qcb : SI Tryz.prog 173 3 := ⟨by kernel_rfl, by kernel_rfl⟩
theorem qhx : EI Tryz.prog 170 173 (.agg #[.int .u64 0, .int .i64 0, .int .i64 0]) 3 24 := ⟨by kernel_rfl, by kernel_rfl, rfl, by omega⟩
theorem gr_is {x : Gr} (h1 : x.parent = 0) (h2 : x.weight = 1) : x = ⟨0, 1⟩ := by
 obtain ⟨a, b⟩ := x
 simp only at h1 h2
 rw [h1, h2]
theorem qqe {l : List Tk} {id : Int} (h : ∀ k, k < l.length → (l.getD k Tk.zero).id ≠ id) : fidx l id = -1 := by unfold fidx; rw [qfl h]
theorem qqf {l : List Tk} {id : Int} {i : Nat} (hi : i < l.length) (h : (l.getD i Tk.zero).id = id) (hn : ∀ k, k < i → (l.getD k Tk.zero).id ≠ id) : fidx l id = i := by unfold fidx; rw [qiw hi h hn]
theorem qet (v r : Nat) (wt : Int) (hv : v < 18446744073709551616) (hr : r < 4294967296) (hw : 0 ≤ wt ∧ wt < 4294967296) (w : World) :
    Calls Tryz.prog 134 #[.agg #[.int .u64 (v : Int), .int .u32 (r : Int), .int .u32 wt]] w (Is w (.bool (entOk v r wt))) := by
 obtain ⟨z, rfl⟩ : ∃ z : Nat, wt = (z : Int) := ⟨wt.toNat, by omega⟩
 refine qg (vs := [.agg #[vQ v, vW r, vW z]]) Tryz.func134 rfl rfl (by kernel_rfl) (σ0 := [(0, .agg #[vQ v, vW r, vW z])]) rfl ?_
 intro a HF
 have HM := Mem.start w
 refine wp_seq (qa ?_)
 refine fo HF 0 rfl rfl ?_
 refine e_box HF HM (cs := #[vQ v, vW r, vW z]) rfl rfl rfl rfl (by decide) ?_
 clear HF HM; intro a w1 g1 HF HM
 refine fp HF 1 1 [(2, .bool false)] fun a HF => ?_
 refine qb rfl (wp_seq (qa ?_))
 refine fp HF 1 0 [(3, vP g1 2)] fun a HF => ?_
 refine fy HF HM 1 rfl rfl rfl (Yl.qf rfl rfl (by kernel_rfl) (fun _ h => h.cell (i := 0) rfl rfl)) fun a HF => ?_
 refine fp HF 2 2 [(6, .bool (decide ((z : Int) ≥ (1 : Int))))] fun a HF => ?_
 rcases HF.tf 6 rfl with ⟨hb6, HF⟩ | ⟨hb6, HF⟩
 ·
  have hd6 := of_decide_eq_true hb6
  refine fp HF 1 4 [(7, vP g1 2)] fun a HF => ?_
  refine fy HF HM 5 rfl rfl rfl (Yl.qf rfl rfl (by kernel_rfl) (fun _ h => h.cell (i := 0) rfl rfl)) fun a HF => ?_
  refine fp HF 3 6 [(11, .bool (decide ((z : Int) ≤ (65536 : Int))))] fun a HF => ?_
  rcases HF.tf 11 rfl with ⟨hb11, HF⟩ | ⟨hb11, HF⟩
  ·
   have hd11 := of_decide_eq_true hb11
   refine fp HF 1 9 [(12, vP g1 1)] fun a HF => ?_
   refine fy HF HM 10 rfl rfl rfl (Yl.qf rfl rfl (by kernel_rfl) (fun _ h => h.cell (i := 0) rfl rfl)) fun a HF => ?_
   refine fp HF 1 11 [(14, vP g1 2)] fun a HF => ?_
   refine fy HF HM 12 rfl rfl rfl (Yl.qf rfl rfl (by kernel_rfl) (fun _ h => h.cell (i := 0) rfl rfl)) fun a HF => ?_
   refine fp HF 3 13 [(18, .bool (decide ((r : Int) < (z : Int))))] fun a HF => ?_
   rcases HF.tf 18 rfl with ⟨hb18, HF⟩ | ⟨hb18, HF⟩
   ·
    have hd18 := of_decide_eq_true hb18
    refine fp HF 1 16 [(19, vP g1 0)] fun a HF => ?_
    refine fy HF HM 17 rfl rfl rfl (Yl.qf rfl rfl (by kernel_rfl) (fun _ h => h.cell (i := 0) rfl rfl)) fun a HF => ?_
    refine fp HF 2 18 [(22, .bool ((v : Int) == (18446744073709551615 : Int)))] fun a HF => ?_
    rcases HF.tf 22 rfl with ⟨hb22, HF⟩ | ⟨hb22, HF⟩
    ·
     have hd22 := eq_of_beq hb22
     refine fp HF 1 20 [(23, vP g1 1)] fun a HF => ?_
     refine fy HF HM 21 rfl rfl rfl (Yl.qf rfl rfl (by kernel_rfl) (fun _ h => h.cell (i := 0) rfl rfl)) fun a HF => ?_
     refine fp HF 5 22 [(2, .bool (!(decide ((r : Int) > (0 : Int)))))] fun a HF => ?_
     refine qb rfl (wp_ret ?_)
     replace HM := HM.picks (fs' := []) [] (by decide) rfl
     exact ret1 rfl HF (.tmp HF rfl) (is_as (by unfold entOk; rw [← decide_not]; exact decide_eq_decide.2 (by omega)) HM.below)
    have hd22 := ne_of_beq_false hb22
    refine fp HF 7 20 [(2, .bool true)] fun a HF => ?_
    refine qb rfl (wp_ret ?_)
    replace HM := HM.picks (fs' := []) [] (by decide) rfl
    exact ret1 rfl HF (.tmp HF rfl) (qba (by omega) HM.below)
   have hd18 := of_decide_eq_false hb18
   refine fp HF 11 16 [(2, .bool false)] fun a HF => ?_
   refine qb rfl (wp_ret ?_)
   replace HM := HM.picks (fs' := []) [] (by decide) rfl
   exact ret1 rfl HF (.tmp HF rfl) (is_no (by omega) HM.below)
  have hd11 := of_decide_eq_false hb11
  refine fp HF 18 9 [(2, .bool false)] fun a HF => ?_
  refine qb rfl (wp_ret ?_)
  replace HM := HM.picks (fs' := []) [] (by decide) rfl
  exact ret1 rfl HF (.tmp HF rfl) (is_no (by omega) HM.below)
 have hd6 := of_decide_eq_false hb6
 refine fp HF 23 4 [(2, .bool false)] fun a HF => ?_
 refine qb rfl (wp_ret ?_)
 replace HM := HM.picks (fs' := []) [] (by decide) rfl
 exact ret1 rfl HF (.tmp HF rfl) (is_no (by omega) HM.below)
theorem qfu (v r : Nat) (wt : Int) (hw : 0 ≤ wt ∧ wt < 4294967296) (w : World) :
    Calls Tryz.prog 135 #[.int .u64 (v : Int), .int .u32 (r : Int), .int .i64 wt] w (Is w (.agg #[.int .u64 (v : Int), .int .u32 (r : Int), .int .u32 wt])) := by
 obtain ⟨z, rfl⟩ : ∃ z : Nat, wt = (z : Int) := ⟨wt.toNat, by omega⟩
 refine qg (vs := [vQ v, vW r, vI z]) Tryz.func135 rfl rfl (by kernel_rfl) (σ0 := [(0, vQ v), (1, vW r), (2, vI z)]) rfl ?_
 intro a HF
 have HM := Mem.start w
 refine wp_seq (qa ?_)
 refine fo HF 0 rfl rfl ?_
 refine qs HF HM (cs := #[vQ 0, vW 0, vW 0]) rfl (by kernel_rfl) rfl (by decide) ?_
 clear HF HM; intro a w6 g6 HF HM
 refine qb rfl (wp_seq (qa ?_))
 refine fp HF 4 0 [(10, vW (IntKind.u32.wrap (z : Int))), (8, vW r), (7, vQ v)] fun a HF => ?_
 replace HF := HF.sp 10 (vW z) rfl (zq rfl (by omega))
 refine fy HF HM 4 rfl rfl rfl (v := .agg #[vQ v, vW r, vW z]) (Yl.build (vs := [(0, vQ v), (1, vW r), (2, vW z)]) rfl (by kernel_rfl) (by kernel_rfl)) fun a HF => ?_
 refine fo HF 5 rfl rfl ?_
 refine e_sa HF HM 0 rfl rfl rfl rfl rfl qov rfl rfl (by simp [Value.oneCell']) ?_
 clear HM; intro w1_5 HM
 refine qb rfl (wp_ret ?_)
 exact ret1 rfl HF (.cellS (i := 0) HF HM rfl rfl qov rfl) (⟨rfl, HM.below⟩)
theorem qqg (m n : Nat) (hm : m < 18446744073709551616) (hn : 1 ≤ n ∧ n ≤ 64) (w : World) :
    Calls Tryz.prog 136 #[.int .u64 (m : Int), .int .i64 (n : Int)] w (Is w (.bool (decide (2 ^ n ≤ m)))) := by
 refine qg (vs := [vQ m, vI n]) Tryz.func136 rfl rfl (by kernel_rfl) (σ0 := [(0, vQ m), (1, vI n)]) rfl ?_
 intro a HF
 have HM := Mem.start w
 refine wp_seq (qa ?_)
 refine fp HF 1 0 [(4, .bool false)] fun a HF => ?_
 refine qb rfl (wp_seq (wp_seq (qa ?_)))
 refine fp HF 2 0 [(5, vI n)] fun a HF => ?_
 refine qb rfl (wp_block ?_)
 refine qo (fun mS aS wS => ∃ (k : Nat), (n ≤ k) ∧ (k ≤ 64) ∧ (∀ i, n ≤ i → i < k → m / 2 ^ i % 2 = 0) ∧ mS = 64 - k ∧ Fr aS 16 [] [(5, vI k), (4, .bool false), (0, vQ m)] ∧ Mem w wS []) (m := 64 - n) ⟨n, Nat.le_refl _, hn.2, fun i h1 h2 => by omega, rfl, HF.sub (by kernel_rfl), HM.picks [] (by decide) rfl⟩ ?_
 clear HF HM; rintro mS a w_ ⟨k, hkn, hk, hu, rfl, HF, HM⟩
 refine wp_seq (wp_seq (qa ?_))
 refine fp HF 2 0 [(8, .bool (decide ((k : Int) < (64 : Int))))] fun a HF => ?_
 refine qb rfl ?_
 rcases HF.tf 8 rfl with ⟨hb8, HF⟩ | ⟨hb8, HF⟩
 ·
  have hd8 := of_decide_eq_true hb8
  have hsh := Nat.div_le_self m (2 ^ k)
  refine qd HF rfl (wp_skip (wp_seq (wp_block (wp_seq (qa ?_)))))
  refine fp HF 2 0 [(12, vI k), (11, vQ m)] fun a HF => ?_
  refine fy HF HM 2 rfl rfl rfl (v := vQ (m / 2 ^ k : Nat)) (Yl.shrN (m := m) (n := k) rfl rfl rfl (by show _ ≤ 64; omega)) fun a HF => ?_
  refine fp HF 1 3 [(14, vQ (Int.tmod ((m / 2 ^ k : Nat) : Int) 2))] fun a HF => ?_
  replace HF := HF.sp 14 (vQ ((m / 2 ^ k) % 2 : Nat)) rfl (qaf .u64 _ 2)
  refine fp HF 1 4 [(15, .bool ((((m / 2 ^ k) % 2 : Nat) : Int) == (1 : Int)))] fun a HF => ?_
  refine qb rfl ?_
  rcases HF.tf 15 rfl with ⟨hb15, HF⟩ | ⟨hb15, HF⟩
  ·
   have hd15 := eq_of_beq hb15
   refine qd HF rfl (wp_seq (qa ?_))
   refine fp HF 1 0 [(4, .bool true)] fun a HF => ?_
   refine qb rfl (wp_ret ?_)
   exact ret1 rfl HF (.tmp HF rfl) (qba (qp2 hkn (by omega)) HM.below)
  have hd15 := ne_of_beq_false hb15
  refine qc HF rfl (wp_skip (qa ?_))
  refine fp HF 2 0 [(10, vI (IntKind.i64.wrap ((k : Int) + 1)))] fun a HF => ?_
  replace HF := HF.sp 10 (vI (k + 1 : Nat)) rfl (qi (by omega) (by omega))
  refine fp HF 1 2 [(5, vI (k + 1 : Nat))] fun a HF => ?_
  refine qb rfl ?_
  exact ⟨_, (by omega), k + 1, by omega, by omega, fun i h1 h2 => by rcases Nat.lt_or_ge i k with h3 | h3; exact hu i h1 h3; obtain rfl : i = k := (by omega); omega, rfl, HF.sub (by kernel_rfl), HM.picks [] (by decide) rfl⟩
 have hd8 := of_decide_eq_false hb8
 refine qc HF rfl (wp_exit (wp_seq (qa ?_)))
 refine fp HF 1 0 [(4, .bool false)] fun a HF => ?_
 refine qb rfl (wp_ret ?_)
 exact ret1 rfl HF (.tmp HF rfl) (is_no (qp1 hm hn.2 (fun i h1 h2 => hu i h1 (by omega))) HM.below)
theorem qm6 (A : Option Addr) (c : Nat) (l : List Gr) (g : Nat) (w : World) (hok : ∀ x ∈ l, x.Ok) (hr : Rd w w.heap.size 2 A l.length (l.flatMap grL)) (hn : l.length ≤ 1000000) (hg : 0 < g ∧ g < l.length) (hp : ∀ i, 0 < i → i < g → ParB l i) :
    Calls Tryz.prog 150 #[.slice A l.length c, .int .i64 (g : Int)] w (DepIs w l g) := by
 refine qg (vs := [.slice A l.length c, vI g]) Tryz.func150 rfl rfl (by kernel_rfl) (σ0 := [(0, .slice A l.length c), (1, vI g)]) rfl ?_
 intro a HF
 have HM := Mem.start w
 refine wp_seq (qa ?_)
 refine fp HF 1 0 [(4, vI 0)] fun a HF => ?_
 refine qb rfl (wp_seq (qa ?_))
 refine fp HF 1 0 [(5, vI 0)] fun a HF => ?_
 refine qb rfl (wp_seq (wp_block ?_))
 refine qo (fun mS aS wS => ∃ (y : Nat) (n : Nat), (y ≤ g) ∧ (n ≤ 5) ∧ (depG l g = n + depG l y) ∧ (y = g ∨ ParB l g) ∧ mS = 0 + y ∧ Fr aS 35 [] [(5, vI n), (4, vI 0), (0, .slice A l.length c), (1, vI y)] ∧ Mem w wS []) (m := 0 + g) ⟨g, 0, Nat.le_refl _, by decide, (Nat.zero_add _).symm, .inl rfl, rfl, HF.sub (by kernel_rfl), HM.picks [] (by decide) rfl⟩ ?_
 clear HF HM; rintro mS a w_ ⟨y, n, hyg, hn5, hd, hpg, rfl, HF, HM⟩
 refine wp_seq (wp_seq (qa ?_))
 refine fp HF 3 0 [(8, .bool (decide ((y : Int) > (0 : Int))))] fun a HF => ?_
 rcases HF.tf 8 rfl with ⟨hb8, HF⟩ | ⟨hb8, HF⟩
 ·
  have hd8 := of_decide_eq_true hb8
  refine fp HF 3 3 [(11, .bool (decide ((n : Int) < (5 : Int))))] fun a HF => ?_
  refine qb rfl ?_
  rcases HF.tf 11 rfl with ⟨hb11, HF⟩ | ⟨hb11, HF⟩
  ·
   have hd11 := of_decide_eq_true hb11
   refine qd HF rfl (wp_skip (wp_block (wp_seq (wp_seq (qa ?_)))))
   refine fp HF 2 0 [(13, vI y), (12, .slice A l.length c)] fun a HF => ?_
   obtain ⟨gA, oA, rfl, _⟩ := hr.qp (Nat.lt_of_le_of_lt (Nat.zero_le _) (show y < l.length from by omega)) (by decide)
   refine fy HF HM 2 rfl rfl rfl (v := vP gA (oA + y * 2)) (Yl.ix gA oA y 2 rfl rfl rfl) fun a HF => ?_
   refine fp HF 1 3 [(15, vP gA (oA + y * 2))] fun a HF => ?_
   refine fy HF HM 4 rfl rfl rfl (v := vI ((l.getD y Gr.zero).parent)) (Yl.qf rfl rfl (by kernel_rfl) (fun _ h => (by have := (h.old hr).partAt zk (k := y) (j := 0) (x := (l.getD y Gr.zero)) ((getD_at Gr.zero (by omega))) rfl; simpa using this))) fun a HF => ?_
   refine fp HF 2 5 [(18, .bool (decide (((l.getD y Gr.zero).parent : Int) < (0 : Int))))] fun a HF => ?_
   rcases HF.tf 18 rfl with ⟨hb18, HF⟩ | ⟨hb18, HF⟩
   ·
    have hd18 := of_decide_eq_true hb18
    refine fp HF 8 7 [(26, .bool true)] fun a HF => ?_
    refine qb rfl (qd HF rfl (wp_seq (qa ?_)))
    refine fp HF 1 0 [(4, vI 5)] fun a HF => ?_
    refine qb rfl (wp_ret ?_)
    exact ret1 rfl HF (.tmp HF rfl) (qlx hp hyg (by omega) (by omega) HM.below)
   have hd18 := of_decide_eq_false hb18
   refine fp HF 2 7 [(20, vI y), (19, .slice (some ⟨gA, oA, none⟩) l.length c)] fun a HF => ?_
   refine fy HF HM 9 rfl rfl rfl (v := vP gA (oA + y * 2)) (Yl.ix gA oA y 2 rfl rfl rfl) fun a HF => ?_
   refine fp HF 1 10 [(22, vP gA (oA + y * 2))] fun a HF => ?_
   refine fy HF HM 11 rfl rfl rfl (v := vI ((l.getD y Gr.zero).parent)) (Yl.qf rfl rfl (by kernel_rfl) (fun _ h => (by have := (h.old hr).partAt zk (k := y) (j := 0) (x := (l.getD y Gr.zero)) ((getD_at Gr.zero (by omega))) rfl; simpa using this))) fun a HF => ?_
   refine fp HF 3 12 [(26, .bool (decide (((l.getD y Gr.zero).parent : Int) ≥ (y : Int))))] fun a HF => ?_
   refine qb rfl ?_
   rcases HF.tf 26 rfl with ⟨hb26, HF⟩ | ⟨hb26, HF⟩
   ·
    have hd26 := of_decide_eq_true hb26
    refine qd HF rfl (wp_seq (qa ?_))
    refine fp HF 1 0 [(4, vI 5)] fun a HF => ?_
    refine qb rfl (wp_ret ?_)
    exact ret1 rfl HF (.tmp HF rfl) (qlx hp hyg (by omega) (by omega) HM.below)
   have hd26 := of_decide_eq_false hb26
   obtain ⟨z, hz⟩ : ∃ z : Nat, (l.getD y Gr.zero).parent = (z : Int) := ⟨(l.getD y Gr.zero).parent.toNat, by omega⟩
   have hds := qsf hp hyg (by omega) hz (by omega)
   refine qc HF rfl (wp_skip (wp_seq (qa ?_)))
   refine fp HF 2 0 [(28, vI y), (27, .slice (some ⟨gA, oA, none⟩) l.length c)] fun a HF => ?_
   refine fy HF HM 2 rfl rfl rfl (v := vP gA (oA + y * 2)) (Yl.ix gA oA y 2 rfl rfl rfl) fun a HF => ?_
   refine fp HF 1 3 [(30, vP gA (oA + y * 2))] fun a HF => ?_
   refine fy HF HM 4 rfl rfl rfl (v := vI ((l.getD y Gr.zero).parent)) (Yl.qf rfl rfl (by kernel_rfl) (fun _ h => (by have := (h.old hr).partAt zk (k := y) (j := 0) (x := (l.getD y Gr.zero)) ((getD_at Gr.zero (by omega))) rfl; simpa using this))) fun a HF => ?_
   replace HF := HF.sp 31 (vI z) rfl (by rw [hz])
   refine fp HF 1 5 [(1, vI z)] fun a HF => ?_
   refine qb rfl (qa ?_)
   refine fp HF 2 0 [(33, vI (IntKind.i64.wrap ((n : Int) + 1)))] fun a HF => ?_
   replace HF := HF.sp 33 (vI (n + 1 : Nat)) rfl (qi (by omega) (by omega))
   refine fp HF 1 2 [(5, vI (n + 1 : Nat))] fun a HF => ?_
   refine qb rfl ?_
   exact ⟨_, (by omega), z, n + 1, by omega, by omega, by omega, .inr (hpg.elim (fun e => e ▸ qug hz (by omega)) id), rfl, HF.sub (by kernel_rfl), HM.picks [] (by decide) rfl⟩
  have hd11 := of_decide_eq_false hb11
  refine qc HF rfl (wp_exit (wp_seq (qa ?_)))
  refine fp HF 2 0 [(4, vI n)] fun a HF => ?_
  refine qb rfl (wp_ret ?_)
  exact ret1 rfl HF (.tmp HF rfl) (qly hd (by omega) hpg hg.1 HM.below)
 have hd8 := of_decide_eq_false hb8
 refine fp HF 3 3 [(11, .bool false)] fun a HF => ?_
 refine qb rfl (qc HF rfl (wp_exit (wp_seq (qa ?_))))
 refine fp HF 2 0 [(4, vI n)] fun a HF => ?_
 refine qb rfl (wp_ret ?_)
 exact ret1 rfl HF (.tmp HF rfl) (qly hd (by omega) hpg hg.1 HM.below)
theorem qew (x : Stm) (hok : x.sta.Ok) (hf : StFew x) (w : World) (hx : StRd w x) :
    Calls Tryz.prog 133 #[.agg #[.int .i64 x.cpus, .int .u64 (x.credit : Int), .slice x.gA x.gs.length x.gc]] w (Is w (.bool (cfgOk x.sta))) := by
 have hc := hok.cpus
 have hcr := hok.credit
 replace hc : I64 x.cpus := hc
 replace hcr : x.credit < 18446744073709551616 := hcr
 unfold I64 at hc
 have hfg := hf.g
 have hokg : ∀ y ∈ x.gs, y.Ok := hok.gs
 refine qg (vs := [.agg #[vI x.cpus, vQ x.credit, .slice x.gA x.gs.length x.gc]]) Tryz.func133 rfl rfl (by kernel_rfl) (σ0 := [(0, .agg #[vI x.cpus, vQ x.credit, .slice x.gA x.gs.length x.gc])]) rfl ?_
 intro a HF
 have HM := Mem.start w
 refine wp_seq (qa ?_)
 refine fo HF 0 rfl rfl ?_
 refine e_box HF HM (cs := #[vI x.cpus, vQ x.credit, .slice x.gA x.gs.length x.gc]) rfl rfl rfl rfl (by decide) ?_
 clear HF HM; intro a w1 g1 HF HM
 refine fp HF 1 1 [(2, .bool false)] fun a HF => ?_
 refine qb rfl (wp_seq (wp_seq (qa ?_)))
 refine fp HF 1 0 [(4, vP g1 0)] fun a HF => ?_
 refine fy HF HM 1 rfl rfl rfl (Yl.qf rfl rfl (by kernel_rfl) (fun _ h => h.cell (i := 0) rfl rfl)) fun a HF => ?_
 refine fp HF 2 2 [(7, .bool (decide ((x.cpus : Int) < (1 : Int))))] fun a HF => ?_
 rcases HF.tf 7 rfl with ⟨hb7, HF⟩ | ⟨hb7, HF⟩
 ·
  have hd7 := of_decide_eq_true hb7
  refine fp HF 21 4 [(28, .bool true)] fun a HF => ?_
  refine qb rfl (qd HF rfl (wp_seq (qa ?_)))
  refine fp HF 1 0 [(2, .bool false)] fun a HF => ?_
  refine qb rfl (wp_ret ?_)
  exact ret1 rfl HF (.tmp HF rfl) (is_as (qgj (by omega)).symm HM.below)
 have hd7 := of_decide_eq_false hb7
 refine fp HF 1 4 [(8, vP g1 0)] fun a HF => ?_
 refine fy HF HM 5 rfl rfl rfl (Yl.qf rfl rfl (by kernel_rfl) (fun _ h => h.cell (i := 0) rfl rfl)) fun a HF => ?_
 refine fp HF 3 6 [(12, .bool (decide ((x.cpus : Int) > (64 : Int))))] fun a HF => ?_
 rcases HF.tf 12 rfl with ⟨hb12, HF⟩ | ⟨hb12, HF⟩
 ·
  have hd12 := of_decide_eq_true hb12
  refine fp HF 16 9 [(28, .bool true)] fun a HF => ?_
  refine qb rfl (qd HF rfl (wp_seq (qa ?_)))
  refine fp HF 1 0 [(2, .bool false)] fun a HF => ?_
  refine qb rfl (wp_ret ?_)
  exact ret1 rfl HF (.tmp HF rfl) (is_as (qgj (by omega)).symm HM.below)
 have hd12 := of_decide_eq_false hb12
 refine fp HF 1 9 [(13, vP g1 1)] fun a HF => ?_
 refine fy HF HM 10 rfl rfl rfl (Yl.qf rfl rfl (by kernel_rfl) (fun _ h => h.cell (i := 0) rfl rfl)) fun a HF => ?_
 refine fp HF 3 11 [(17, .bool (decide ((x.credit : Int) > (1099511627776 : Int))))] fun a HF => ?_
 rcases HF.tf 17 rfl with ⟨hb17, HF⟩ | ⟨hb17, HF⟩
 ·
  have hd17 := of_decide_eq_true hb17
  refine fp HF 11 14 [(28, .bool true)] fun a HF => ?_
  refine qb rfl (qd HF rfl (wp_seq (qa ?_)))
  refine fp HF 1 0 [(2, .bool false)] fun a HF => ?_
  refine qb rfl (wp_ret ?_)
  exact ret1 rfl HF (.tmp HF rfl) (is_as (qgj (by omega)).symm HM.below)
 have hd17 := of_decide_eq_false hb17
 refine fp HF 1 14 [(18, vP g1 2)] fun a HF => ?_
 refine fy HF HM 15 rfl rfl rfl (Yl.qf rfl rfl (by kernel_rfl) (fun _ h => h.cell (i := 0) rfl rfl)) fun a HF => ?_
 refine fy HF HM 16 rfl rfl rfl (Yl.len rfl rfl (by kernel_rfl)) fun a HF => ?_
 refine fp HF 3 17 [(23, .bool (decide ((x.gs.length : Int) < (1 : Int))))] fun a HF => ?_
 rcases HF.tf 23 rfl with ⟨hb23, HF⟩ | ⟨hb23, HF⟩
 ·
  have hd23 := of_decide_eq_true hb23
  refine fp HF 5 20 [(28, .bool true)] fun a HF => ?_
  refine qb rfl (qd HF rfl (wp_seq (qa ?_)))
  refine fp HF 1 0 [(2, .bool false)] fun a HF => ?_
  refine qb rfl (wp_ret ?_)
  exact ret1 rfl HF (.tmp HF rfl) (is_as (qgz (qb9 (by omega))).symm HM.below)
 have hd23 := of_decide_eq_false hb23
 refine fp HF 1 20 [(24, vP g1 2)] fun a HF => ?_
 refine fy HF HM 21 rfl rfl rfl (Yl.qf rfl rfl (by kernel_rfl) (fun _ h => h.cell (i := 0) rfl rfl)) fun a HF => ?_
 refine fy HF HM 22 rfl rfl rfl (Yl.len rfl rfl (by kernel_rfl)) fun a HF => ?_
 refine fp HF 2 23 [(28, .bool (decide ((x.gs.length : Int) > (256 : Int))))] fun a HF => ?_
 refine qb rfl ?_
 rcases HF.tf 28 rfl with ⟨hb28, HF⟩ | ⟨hb28, HF⟩
 ·
  have hd28 := of_decide_eq_true hb28
  refine qd HF rfl (wp_seq (qa ?_))
  refine fp HF 1 0 [(2, .bool false)] fun a HF => ?_
  refine qb rfl (wp_ret ?_)
  exact ret1 rfl HF (.tmp HF rfl) (is_as (qgz (qb9 (by omega))).symm HM.below)
 have hd28 := of_decide_eq_false hb28
 refine qc HF rfl (wp_skip (wp_seq (wp_seq (qa ?_))))
 refine fp HF 1 0 [(29, vP g1 2)] fun a HF => ?_
 refine fy HF HM 1 rfl rfl rfl (Yl.qf rfl rfl (by kernel_rfl) (fun _ h => h.cell (i := 0) rfl rfl)) fun a HF => ?_
 obtain ⟨gq1, oq1, hq1, _⟩ := Rd.qp hx.g (Nat.lt_of_le_of_lt (Nat.zero_le _) (show 0 < x.gs.length from by omega)) (by decide)
 have hrq1 := hx.g; rw [hq1] at hrq1
 replace HF := HF.as (t := 30) (u := .slice (some ⟨gq1, oq1, none⟩) x.gs.length x.gc) rfl (by rw [hq1]; try rfl)
 refine fy HF HM 2 rfl rfl rfl (v := vP gq1 oq1) (Yl.indexAddr (ad := ⟨gq1, oq1, none⟩) (y := 0) (sz := 2) rfl rfl rfl (by omega) (by kernel_rfl)) fun a HF => ?_
 refine fp HF 1 3 [(32, vP gq1 oq1)] fun a HF => ?_
 refine fy HF HM 4 rfl rfl rfl (v := vI ((x.gs.getD 0 Gr.zero).parent)) (Yl.qf rfl rfl (by kernel_rfl) (fun _ h => (by have := (h.old hrq1).partAt zk (k := 0) (j := 0) (x := (x.gs.getD 0 Gr.zero)) ((getD_at Gr.zero (by omega))) rfl; simpa using this))) fun a HF => ?_
 refine fp HF 2 5 [(35, .bool (((x.gs.getD 0 Gr.zero).parent : Int) != (0 : Int)))] fun a HF => ?_
 rcases HF.tf 35 rfl with ⟨hb35, HF⟩ | ⟨hb35, HF⟩
 ·
  have hd35 := bne_iff_ne.1 hb35
  refine fp HF 7 7 [(42, .bool true)] fun a HF => ?_
  refine qb rfl (qd HF rfl (wp_seq (qa ?_)))
  refine fp HF 1 0 [(2, .bool false)] fun a HF => ?_
  refine qb rfl (wp_ret ?_)
  exact ret1 rfl HF (.tmp HF rfl) (is_as (qgz (qb9 (fun h => by rw [h.2.2] at hd35; exact hd35 rfl))).symm HM.below)
 have hd35 := bne_eq_false_iff_eq.1 hb35
 refine fp HF 1 7 [(36, vP g1 2)] fun a HF => ?_
 refine fy HF HM 8 rfl rfl rfl (Yl.qf rfl rfl (by kernel_rfl) (fun _ h => h.cell (i := 0) rfl rfl)) fun a HF => ?_
 replace HF := HF.as (t := 37) (u := .slice (some ⟨gq1, oq1, none⟩) x.gs.length x.gc) rfl (by rw [hq1]; try rfl)
 refine fy HF HM 9 rfl rfl rfl (v := vP gq1 oq1) (Yl.indexAddr (ad := ⟨gq1, oq1, none⟩) (y := 0) (sz := 2) rfl rfl rfl (by omega) (by kernel_rfl)) fun a HF => ?_
 refine fp HF 1 10 [(39, vP gq1 (oq1 + 1))] fun a HF => ?_
 refine fy HF HM 11 rfl rfl rfl (v := vI ((x.gs.getD 0 Gr.zero).weight)) (Yl.qf rfl rfl (by kernel_rfl) (fun _ h => (h.old hrq1).partAt zk (k := 0) (j := 1) (x := (x.gs.getD 0 Gr.zero)) ((getD_at Gr.zero (by omega))) rfl)) fun a HF => ?_
 refine fp HF 2 12 [(42, .bool (((x.gs.getD 0 Gr.zero).weight : Int) != (1 : Int)))] fun a HF => ?_
 refine qb rfl ?_
 rcases HF.tf 42 rfl with ⟨hb42, HF⟩ | ⟨hb42, HF⟩
 ·
  have hd42 := bne_iff_ne.1 hb42
  refine qd HF rfl (wp_seq (qa ?_))
  refine fp HF 1 0 [(2, .bool false)] fun a HF => ?_
  refine qb rfl (wp_ret ?_)
  exact ret1 rfl HF (.tmp HF rfl) (is_as (qgz (qb9 (fun h => by rw [h.2.2] at hd42; exact hd42 rfl))).symm HM.below)
 have hd42 := bne_eq_false_iff_eq.1 hb42
 have hg0 : (x.gs.getD 0 Gr.zero) = ⟨0, 1⟩ := gr_is hd35 hd42
 refine qc HF rfl (wp_skip (wp_seq (wp_seq (qa ?_))))
 refine fp HF 1 0 [(3, vI 1)] fun a HF => ?_
 refine qb rfl (wp_block ?_)
 refine qo (fun mS aS wS => ∃ (g : Nat), (1 ≤ g) ∧ (g ≤ x.gs.length) ∧ (UpTo g (gOk x.gs)) ∧ mS = x.gs.length - g ∧ Fr aS 65 [] [(3, vI g), (42, .bool false), (28, .bool false), (2, .bool false), (1, vP g1 0)] ∧ Mem w wS [.blk g1 #[vI x.cpus, vQ x.credit, .slice x.gA x.gs.length x.gc] 25]) (m := x.gs.length - 1) ⟨1, Nat.le_refl _, by omega, UpTo.zero.succ (qlh x.gs), rfl, HF.sub (by kernel_rfl), HM.picks [0] (by decide) rfl⟩ ?_
 clear HF HM; rintro mS a w_ ⟨g, hg1, hgl, hu, rfl, HF, HM⟩
 refine wp_seq (wp_seq (qa ?_))
 refine fp HF 2 0 [(44, vP g1 2), (43, vI g)] fun a HF => ?_
 refine fy HF HM 2 rfl rfl rfl (Yl.qf rfl rfl (by kernel_rfl) (fun _ h => h.cell (i := 0) rfl rfl)) fun a HF => ?_
 refine fy HF HM 3 rfl rfl rfl (Yl.len rfl rfl (by kernel_rfl)) fun a HF => ?_
 refine fp HF 1 4 [(47, .bool (decide ((g : Int) < (x.gs.length : Int))))] fun a HF => ?_
 refine qb rfl ?_
 rcases HF.tf 47 rfl with ⟨hb47, HF⟩ | ⟨hb47, HF⟩
 ·
  have hd47 := of_decide_eq_true hb47
  have hg47 : g < x.gs.length := by omega
  have hOk := hok.gs _ (q5 Gr.zero hg47)
  have hOw := hOk.weight
  unfold I64 at hOw
  refine qd HF rfl (wp_skip (wp_seq (wp_block (wp_seq (qa ?_)))))
  refine fp HF 1 0 [(50, vP g1 2)] fun a HF => ?_
  refine fy HF HM 1 rfl rfl rfl (Yl.qf rfl rfl (by kernel_rfl) (fun _ h => h.cell (i := 0) rfl rfl)) fun a HF => ?_
  refine fp HF 1 2 [(52, vI g)] fun a HF => ?_
  replace HF := HF.as (t := 51) (u := .slice (some ⟨gq1, oq1, none⟩) x.gs.length x.gc) rfl (by rw [hq1]; try rfl)
  refine fy HF HM 3 rfl rfl rfl (v := vP gq1 (oq1 + g * 2)) (Yl.ix gq1 oq1 g 2 rfl rfl rfl) fun a HF => ?_
  refine fp HF 1 4 [(54, vP gq1 (oq1 + g * 2 + 1))] fun a HF => ?_
  refine fy HF HM 5 rfl rfl rfl (v := vI ((x.gs.getD g Gr.zero).weight)) (Yl.qf rfl rfl (by kernel_rfl) (fun _ h => (h.old hrq1).partAt zk (k := g) (j := 1) (x := (x.gs.getD g Gr.zero)) ((getD_at Gr.zero (by omega))) rfl)) fun a HF => ?_
  refine fo HF 6 rfl rfl ?_
  refine e_cl HF [vI ((x.gs.getD g Gr.zero).weight)] rfl rfl (qhn ((x.gs.getD g Gr.zero).weight) _) ?_
  rintro _ w56 ⟨rfl, hbw⟩
  refine ⟨_, rfl, ?_⟩
  replace HM := HM.call hbw
  clear HF; intro a HF
  refine fp HF 2 7 [(58, .bool (!(decide (1 ≤ (x.gs.getD g Gr.zero).weight ∧ (x.gs.getD g Gr.zero).weight ≤ 65536))))] fun a HF => ?_
  rcases HF.tf 58 rfl with ⟨hb58, HF⟩ | ⟨hb58, HF⟩
  ·
   have hd58 := of_decide_eq_false ((Bool.not_eq_true' _).mp hb58)
   refine fp HF 6 9 [(64, .bool true)] fun a HF => ?_
   refine qb rfl (qd HF rfl (wp_seq (qa ?_)))
   refine fp HF 1 0 [(2, .bool false)] fun a HF => ?_
   refine qb rfl (wp_ret ?_)
   exact ret1 rfl HF (.tmp HF rfl) (is_as (qgz (qd7 hg47 (qgi (by omega) (fun h => hd58 h.2.2.1)))).symm HM.below)
  have hd58 := of_decide_eq_true ((Bool.not_eq_false' _).mp hb58)
  refine fp HF 1 9 [(59, vP g1 2)] fun a HF => ?_
  refine fy HF HM 10 rfl rfl rfl (Yl.qf rfl rfl (by kernel_rfl) (fun _ h => h.cell (i := 0) rfl rfl)) fun a HF => ?_
  refine fp HF 1 11 [(61, vI g)] fun a HF => ?_
  refine fo HF 12 rfl rfl ?_
  refine e_cl HF [.slice x.gA x.gs.length x.gc, vI g] rfl rfl (qm6 x.gA x.gc x.gs g _ hok.gs (HM.old hx.g) hf.g ⟨by omega, by omega⟩ (qui hu)) ?_
  rintro _ w62 ⟨⟨d, rfl, hd⟩, hbw⟩
  refine ⟨_, rfl, ?_⟩
  replace HM := HM.call hbw
  clear HF; intro a HF
  refine fp HF 2 13 [(64, .bool (decide ((d : Int) > (4 : Int))))] fun a HF => ?_
  refine qb rfl ?_
  rcases HF.tf 64 rfl with ⟨hb64, HF⟩ | ⟨hb64, HF⟩
  ·
   have hd64 := of_decide_eq_true hb64
   refine qd HF rfl (wp_seq (qa ?_))
   refine fp HF 1 0 [(2, .bool false)] fun a HF => ?_
   refine qb rfl (wp_ret ?_)
   exact ret1 rfl HF (.tmp HF rfl) (is_as (qgz (qd7 hg47 (quh (by omega) (fun h => by have := hd.2 h; omega)))).symm HM.below)
  have hd64 := of_decide_eq_false hb64
  refine qc HF rfl (wp_skip (qa ?_))
  refine fp HF 2 0 [(49, vI (IntKind.i64.wrap ((g : Int) + 1)))] fun a HF => ?_
  replace HF := HF.sp 49 (vI (g + 1 : Nat)) rfl (qi (by omega) (by omega))
  refine fp HF 1 2 [(3, vI (g + 1 : Nat))] fun a HF => ?_
  refine qb rfl ?_
  exact ⟨_, (by omega), g + 1, by omega, by omega, hu.succ (qsg (hd.1 (by omega)) (by simpa using hb58)), rfl, HF.sub (by kernel_rfl), HM.picks [0] (by decide) rfl⟩
 have hd47 := of_decide_eq_false hb47
 refine qc HF rfl (wp_exit (wp_seq (qa ?_)))
 refine fp HF 1 0 [(2, .bool true)] fun a HF => ?_
 refine qb rfl (wp_ret ?_)
 exact ret1 rfl HF (.tmp HF rfl) (is_as ((qo4 (by omega)).trans (qlg ⟨by omega, by omega, hg0⟩ (fun i hi => hu i (by omega)))).symm HM.below)
theorem qqh (x : Stm) (id : Int) (w : World) (hx : StRd w x) (hn : x.ts.length ≤ 1000000) :
    Calls Tryz.prog 113 #[.agg x.cells, .int .i64 id] w (Is w (.int .i64 (fidx x.ts id))) := by
 refine qg (vs := [.agg x.cells, vI id]) Tryz.func113 rfl rfl (by kernel_rfl) (σ0 := [(0, .agg x.cells), (1, vI id)]) rfl ?_
 intro a HF
 have HM := Mem.start w
 refine wp_seq (qa ?_)
 refine fo HF 0 rfl rfl ?_
 refine e_box HF HM (cs := x.cells) rfl rfl rfl rfl (by decide) ?_
 clear HF HM; intro a w2 g2 HF HM
 refine fp HF 1 1 [(4, vI 0)] fun a HF => ?_
 refine qb rfl (wp_seq (wp_seq (qa ?_)))
 refine fp HF 1 0 [(5, vI 0)] fun a HF => ?_
 refine qb rfl (wp_block ?_)
 refine qo (fun mS aS wS => ∃ (i : Nat), (i ≤ x.ts.length) ∧ (∀ k, k < i → (x.ts.getD k Tk.zero).id ≠ id) ∧ mS = x.ts.length - i ∧ Fr aS 22 [] [(5, vI i), (4, vI 0), (2, vP g2 0), (1, vI id)] ∧ Mem w wS [.blk g2 x.cells 30]) (m := x.ts.length - 0) ⟨0, Nat.zero_le _, fun k h => by omega, rfl, HF.sub (by kernel_rfl), HM.picks [0] (by decide) rfl⟩ ?_
 clear HF HM; rintro mS a w_ ⟨i, hi, hu, rfl, HF, HM⟩
 refine wp_seq (wp_seq (qa ?_))
 refine fp HF 2 0 [(7, vP g2 5), (6, vI i)] fun a HF => ?_
 refine fy HF HM 2 rfl rfl rfl (v := .slice x.tA x.ts.length x.tc) (Yl.qf rfl rfl (by kernel_rfl) (fun _ h => h.cell (i := 0) rfl (rfl))) fun a HF => ?_
 refine fy HF HM 3 rfl rfl rfl (Yl.len rfl rfl (by kernel_rfl)) fun a HF => ?_
 refine fp HF 1 4 [(10, .bool (decide ((i : Int) < (x.ts.length : Int))))] fun a HF => ?_
 refine qb rfl ?_
 rcases HF.tf 10 rfl with ⟨hb10, HF⟩ | ⟨hb10, HF⟩
 ·
  have hd10 := of_decide_eq_true hb10
  have hi10 : i < x.ts.length := by omega
  refine qd HF rfl (wp_skip (wp_seq (wp_block (wp_seq (qa ?_)))))
  refine fp HF 1 0 [(13, vP g2 5)] fun a HF => ?_
  refine fy HF HM 1 rfl rfl rfl (v := .slice x.tA x.ts.length x.tc) (Yl.qf rfl rfl (by kernel_rfl) (fun _ h => h.cell (i := 0) rfl (rfl))) fun a HF => ?_
  refine fp HF 1 2 [(15, vI i)] fun a HF => ?_
  obtain ⟨gq1, oq1, hq1, _⟩ := Rd.qp hx.t (Nat.lt_of_le_of_lt (Nat.zero_le _) (show i < x.ts.length from by omega)) (by decide)
  have hrq1 := hx.t; rw [hq1] at hrq1
  replace HF := HF.as (t := 14) (u := .slice (some ⟨gq1, oq1, none⟩) x.ts.length x.tc) rfl (by rw [hq1]; try rfl)
  refine fy HF HM 3 rfl rfl rfl (v := vP gq1 (oq1 + i * 8)) (Yl.ix gq1 oq1 i 8 rfl rfl rfl) fun a HF => ?_
  refine fp HF 1 4 [(17, vP gq1 (oq1 + i * 8))] fun a HF => ?_
  refine fy HF HM 5 rfl rfl rfl (v := vI ((x.ts.getD i Tk.zero).id)) (Yl.qf rfl rfl (by kernel_rfl) (fun _ h => (by have := (h.old hrq1).partAt zf (k := i) (j := 0) (x := (x.ts.getD i Tk.zero)) ((getD_at Tk.zero (by omega))) rfl; simpa using this))) fun a HF => ?_
  refine fp HF 2 6 [(20, .bool (((x.ts.getD i Tk.zero).id : Int) == (id : Int)))] fun a HF => ?_
  refine qb rfl ?_
  rcases HF.tf 20 rfl with ⟨hb20, HF⟩ | ⟨hb20, HF⟩
  ·
   have hd20 := eq_of_beq hb20
   refine qd HF rfl (wp_seq (qa ?_))
   refine fp HF 2 0 [(4, vI i)] fun a HF => ?_
   refine qb rfl (wp_ret ?_)
   exact ret1 rfl HF (.tmp HF rfl) (⟨by rw [qqf hi10 hd20 hu], HM.below⟩)
  have hd20 := ne_of_beq_false hb20
  refine qc HF rfl (wp_skip (qa ?_))
  refine fp HF 2 0 [(12, vI (IntKind.i64.wrap ((i : Int) + 1)))] fun a HF => ?_
  replace HF := HF.sp 12 (vI (i + 1 : Nat)) rfl (qi (by omega) (by omega))
  refine fp HF 1 2 [(5, vI (i + 1 : Nat))] fun a HF => ?_
  refine qb rfl ?_
  exact ⟨_, (by omega), i + 1, by omega, qgq hu hd20, rfl, HF.sub (by kernel_rfl), HM.picks [0] (by decide) rfl⟩
 have hd10 := of_decide_eq_false hb10
 refine qc HF rfl (wp_exit (wp_seq (qa ?_)))
 refine fp HF 1 0 [(4, vI (-1))] fun a HF => ?_
 refine qb rfl (wp_ret ?_)
 exact ret1 rfl HF (.tmp HF rfl) (⟨by rw [qqe (fun k h => hu k (by omega))], HM.below⟩)
theorem qkk (p q : Mb) (w : World) :
    Calls Tryz.prog 137 #[.agg p.rcells, .agg q.rcells] w (Is w (.bool (p.lt q))) := by
 refine qg (vs := [.agg p.rcells, .agg q.rcells]) Tryz.func137 rfl rfl (by kernel_rfl) (σ0 := [(0, .agg p.rcells), (1, .agg q.rcells)]) rfl ?_
 intro a HF
 have HM := Mem.start w
 refine wp_seq (qa ?_)
 refine fo HF 0 rfl rfl ?_
 refine e_box HF HM (cs := p.rcells) rfl rfl rfl rfl (by decide) ?_
 clear HF HM; intro a w2 g2 HF HM
 refine fo HF 1 rfl rfl ?_
 refine e_box HF HM (cs := q.rcells) rfl rfl rfl rfl (by decide) ?_
 clear HF HM; intro a w3 g3 HF HM
 refine fp HF 1 2 [(4, .bool false)] fun a HF => ?_
 refine qb rfl (wp_seq (wp_seq (qa ?_)))
 refine fp HF 1 0 [(5, vP g2 0)] fun a HF => ?_
 refine fy HF HM 1 rfl rfl rfl (v := vQ p.v) (Yl.qf rfl rfl (by kernel_rfl) (fun _ h => h.cell (i := 1) rfl (rfl))) fun a HF => ?_
 refine fp HF 1 2 [(7, vP g3 0)] fun a HF => ?_
 refine fy HF HM 3 rfl rfl rfl (v := vQ q.v) (Yl.qf rfl rfl (by kernel_rfl) (fun _ h => h.cell (i := 0) rfl (rfl))) fun a HF => ?_
 refine fp HF 1 4 [(9, .bool ((p.v : Int) != (q.v : Int)))] fun a HF => ?_
 refine qb rfl ?_
 rcases HF.tf 9 rfl with ⟨hb9, HF⟩ | ⟨hb9, HF⟩
 ·
  have hd9 := bne_iff_ne.1 hb9
  refine qd HF rfl (wp_seq (qa ?_))
  refine fp HF 1 0 [(10, vP g2 0)] fun a HF => ?_
  refine fy HF HM 1 rfl rfl rfl (v := vQ p.v) (Yl.qf rfl rfl (by kernel_rfl) (fun _ h => h.cell (i := 1) rfl (rfl))) fun a HF => ?_
  refine fp HF 1 2 [(12, vP g3 0)] fun a HF => ?_
  refine fy HF HM 3 rfl rfl rfl (v := vQ q.v) (Yl.qf rfl rfl (by kernel_rfl) (fun _ h => h.cell (i := 0) rfl (rfl))) fun a HF => ?_
  refine fp HF 2 4 [(4, .bool (decide ((p.v : Int) < (q.v : Int))))] fun a HF => ?_
  refine qb rfl (wp_ret ?_)
  exact ret1 rfl HF (.tmp HF rfl) (qp6 (lt_v (by omega)) HM.below)
 have hd9 := bne_eq_false_iff_eq.1 hb9
 refine qc HF rfl (wp_skip (wp_seq (wp_seq (qa ?_))))
 refine fp HF 1 0 [(15, vP g2 1)] fun a HF => ?_
 refine fy HF HM 1 rfl rfl rfl (v := vI p.k) (Yl.qf rfl rfl (by kernel_rfl) (fun _ h => h.cell (i := 1) rfl (rfl))) fun a HF => ?_
 refine fp HF 1 2 [(17, vP g3 1)] fun a HF => ?_
 refine fy HF HM 3 rfl rfl rfl (v := vI q.k) (Yl.qf rfl rfl (by kernel_rfl) (fun _ h => h.cell (i := 0) rfl (rfl))) fun a HF => ?_
 refine fp HF 1 4 [(19, .bool ((p.k : Int) != (q.k : Int)))] fun a HF => ?_
 refine qb rfl ?_
 rcases HF.tf 19 rfl with ⟨hb19, HF⟩ | ⟨hb19, HF⟩
 ·
  have hd19 := bne_iff_ne.1 hb19
  refine qd HF rfl (wp_seq (qa ?_))
  refine fp HF 1 0 [(20, vP g2 1)] fun a HF => ?_
  refine fy HF HM 1 rfl rfl rfl (v := vI p.k) (Yl.qf rfl rfl (by kernel_rfl) (fun _ h => h.cell (i := 1) rfl (rfl))) fun a HF => ?_
  refine fp HF 1 2 [(22, vP g3 1)] fun a HF => ?_
  refine fy HF HM 3 rfl rfl rfl (v := vI q.k) (Yl.qf rfl rfl (by kernel_rfl) (fun _ h => h.cell (i := 0) rfl (rfl))) fun a HF => ?_
  refine fp HF 2 4 [(4, .bool (decide ((p.k : Int) < (q.k : Int))))] fun a HF => ?_
  refine qb rfl (wp_ret ?_)
  exact ret1 rfl HF (.tmp HF rfl) (qp6 (lt_k (by omega) (by omega)) HM.below)
 have hd19 := bne_eq_false_iff_eq.1 hb19
 refine qc HF rfl (wp_skip (wp_seq (qa ?_)))
 refine fp HF 1 0 [(25, vP g2 2)] fun a HF => ?_
 refine fy HF HM 1 rfl rfl rfl (v := vI p.id) (Yl.qf rfl rfl (by kernel_rfl) (fun _ h => h.cell (i := 1) rfl (rfl))) fun a HF => ?_
 refine fp HF 1 2 [(27, vP g3 2)] fun a HF => ?_
 refine fy HF HM 3 rfl rfl rfl (v := vI q.id) (Yl.qf rfl rfl (by kernel_rfl) (fun _ h => h.cell (i := 0) rfl (rfl))) fun a HF => ?_
 refine fp HF 2 4 [(4, .bool (decide ((p.id : Int) < (q.id : Int))))] fun a HF => ?_
 refine qb rfl (wp_ret ?_)
 exact ret1 rfl HF (.tmp HF rfl) (qp6 (lt_id (by omega) (by omega)) HM.below)
end Go.Proofs.YtggpmlaappaopaaGreatDoor
