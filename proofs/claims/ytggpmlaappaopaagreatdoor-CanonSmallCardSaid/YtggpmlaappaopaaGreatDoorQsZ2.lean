/- Parts. -/
import Derived.Test.YtggpmlaappaopaaGreatDoorQsRnd2
import Derived.Test.YtggpmlaappaopaaGreatDoorQsZ1
set_option linter.all false
set_option maxRecDepth 100000
set_option maxHeartbeats 1000000
namespace Go.Proofs.YtggpmlaappaopaaGreatDoor
open Go.RowKit
theorem qnj (A : Option Addr) (c : Nat) (l : List Rw) (D : Option Addr) (c2 : Nat) (m : List Rw) (w : World) (hr : Rd w w.heap.size 1 A l.length (l.map Rw.val)) (hr2 : Rd w w.heap.size 1 D m.length (m.map Rw.val)) (hl : ∀ y ∈ l, Rd w w.heap.size 3 y.A y.l.length (y.l.flatMap spL)) (hm : ∀ y ∈ m, Rd w w.heap.size 3 y.A y.l.length (y.l.flatMap spL)) (hn : l.length ≤ 1000000) (hn2 : m.length ≤ 1000000) (hnl : ∀ y ∈ l, y.l.length ≤ 1000000) (hnm : ∀ y ∈ m, y.l.length ≤ 1000000) :
    Calls Tryz.prog 63 #[.slice A l.length c, .slice D m.length c2, .func (.func 64) #[] #[]] w (Is w (.bool (decide (l.map Rw.l = m.map Rw.l)))) := by
 refine qg (vs := [.slice A l.length c, .slice D m.length c2, .func (.func 64) #[] #[]]) Tryz.func63 rfl rfl (by kernel_rfl) (σ0 := [(0, .slice A l.length c), (1, .slice D m.length c2), (2, .func (.func 64) #[] #[])]) rfl ?_
 intro a HF
 have HM := Mem.start w
 refine wp_seq (qa ?_)
 refine fp HF 1 0 [(6, .bool false)] fun a HF => ?_
 refine qb rfl (wp_seq (wp_seq (qa ?_)))
 refine fp HF 1 0 [(10, .slice A l.length c)] fun a HF => ?_
 refine fy HF HM 1 rfl rfl rfl (Yl.len rfl rfl (by kernel_rfl)) fun a HF => ?_
 refine fp HF 1 2 [(12, .slice D m.length c2)] fun a HF => ?_
 refine fy HF HM 3 rfl rfl rfl (Yl.len rfl rfl (by kernel_rfl)) fun a HF => ?_
 refine fp HF 1 4 [(14, .bool ((l.length : Int) != (m.length : Int)))] fun a HF => ?_
 refine qb rfl ?_
 rcases HF.tf 14 rfl with ⟨hb14, HF⟩ | ⟨hb14, HF⟩
 ·
  have hd14 := bne_iff_ne.1 hb14
  refine qd HF rfl (wp_seq (qa ?_))
  refine fp HF 1 0 [(6, .bool false)] fun a HF => ?_
  refine qb rfl (wp_ret ?_)
  exact ret1 rfl HF (.tmp HF rfl) (is_no (qps (fun e => hd14 (by rw [e]))) HM.below)
 have hd14 := bne_eq_false_iff_eq.1 hb14
 have hlm : l.length = m.length := by omega
 refine qc HF rfl (wp_skip (wp_seq (wp_seq (qa ?_))))
 refine fp HF 1 0 [(15, .slice A l.length c)] fun a HF => ?_
 refine fy HF HM 1 rfl rfl rfl (Yl.len rfl rfl (by kernel_rfl)) fun a HF => ?_
 refine fp HF 1 2 [(17, vI 0)] fun a HF => ?_
 refine qb rfl (wp_block ?_)
 refine qo (fun mS aS wS => ∃ (k : Nat), (k ≤ l.length) ∧ (∀ i, i < k → (l.getD i Rw.zero).l = (m.getD i Rw.zero).l) ∧ mS = l.length - k ∧ Fr aS 32 [] [(17, vI k), (16, vI l.length), (15, .slice A l.length c), (14, .bool false), (6, .bool false), (0, .slice A l.length c), (1, .slice D m.length c2), (2, .func (.func 64) #[] #[])] ∧ Mem w wS []) (m := l.length - 0) ⟨0, Nat.zero_le _, z0, rfl, HF.sub (by kernel_rfl), HM.picks [] (by decide) rfl⟩ ?_
 clear HF HM; rintro mS a w_ ⟨k, hk, hu, rfl, HF, HM⟩
 refine wp_seq (qa ?_)
 refine fp HF 1 0 [(18, .bool (decide ((k : Int) < (l.length : Int))))] fun a HF => ?_
 refine qb rfl (wp_seq ?_)
 rcases HF.tf 18 rfl with ⟨hb18, HF⟩ | ⟨hb18, HF⟩
 ·
  have hd18 := of_decide_eq_true hb18
  have hk1 : k < l.length := by omega
  have hk2 : k < m.length := by omega
  obtain ⟨gA, oA, rfl, _⟩ := hr.qp (Nat.lt_of_le_of_lt (Nat.zero_le _) (show k < l.length from hk1)) (by decide)
  obtain ⟨gD, oD, rfl, _⟩ := hr2.qp (Nat.lt_of_le_of_lt (Nat.zero_le _) (show k < m.length from hk2)) (by decide)
  refine qd HF rfl (wp_skip (wp_seq (wp_block (wp_seq (qa ?_)))))
  refine fp HF 1 0 [(19, vI k)] fun a HF => ?_
  refine fy HF HM 1 rfl rfl rfl (v := vP gA (oA + k * 1)) (Yl.ix gA oA k 1 rfl rfl rfl) fun a HF => ?_
  refine fy HF HM 2 rfl rfl rfl (v := .slice ((l.getD k Rw.zero).A) ((l.getD k Rw.zero).l.length) ((l.getD k Rw.zero).c)) (Yl.qf rfl rfl (by kernel_rfl) (fun _ h => (h.old hr).q7 (k := k) (qz (F := Rw.val) (k := k) (x := (l.getD k Rw.zero)) ((getD_at Rw.zero hk1))))) fun a HF => ?_
  refine fp HF 2 3 [(8, .slice ((l.getD k Rw.zero).A) ((l.getD k Rw.zero).l.length) ((l.getD k Rw.zero).c)), (7, vI k)] fun a HF => ?_
  refine qb rfl (wp_seq (qa ?_))
  refine fp HF 2 0 [(23, vI k), (22, .slice (some ⟨gD, oD, none⟩) m.length c2)] fun a HF => ?_
  refine fy HF HM 2 rfl rfl rfl (v := vP gD (oD + k * 1)) (Yl.ix gD oD k 1 rfl rfl rfl) fun a HF => ?_
  refine fy HF HM 3 rfl rfl rfl (v := .slice ((m.getD k Rw.zero).A) ((m.getD k Rw.zero).l.length) ((m.getD k Rw.zero).c)) (Yl.qf rfl rfl (by kernel_rfl) (fun _ h => (h.old hr2).q7 (k := k) (qz (F := Rw.val) (k := k) (x := (m.getD k Rw.zero)) ((getD_at Rw.zero hk2))))) fun a HF => ?_
  refine fp HF 1 4 [(9, .slice ((m.getD k Rw.zero).A) ((m.getD k Rw.zero).l.length) ((m.getD k Rw.zero).c))] fun a HF => ?_
  refine qb rfl (wp_seq (qa ?_))
  refine fp HF 3 0 [(28, .slice ((m.getD k Rw.zero).A) ((m.getD k Rw.zero).l.length) ((m.getD k Rw.zero).c)), (27, .slice ((l.getD k Rw.zero).A) ((l.getD k Rw.zero).l.length) ((l.getD k Rw.zero).c)), (26, .func (.func 64) #[] #[])] fun a HF => ?_
  refine fo HF 3 rfl rfl ?_
  refine qax HF (f := 64) (vs := [.slice ((l.getD k Rw.zero).A) ((l.getD k Rw.zero).l.length) ((l.getD k Rw.zero).c), .slice ((m.getD k Rw.zero).A) ((m.getD k Rw.zero).l.length) ((m.getD k Rw.zero).c)]) (fst := []) (caps := []) rfl rfl rfl (by kernel_rfl) rfl (by decide) (qsu (l.getD k Rw.zero).A (l.getD k Rw.zero).c (l.getD k Rw.zero).l (m.getD k Rw.zero).A (m.getD k Rw.zero).c (m.getD k Rw.zero).l _ (HM.old (hl _ (q5 Rw.zero hk1))) (HM.old (hm _ (q5 Rw.zero hk2))) (hnl _ (q5 Rw.zero hk1)) (hnm _ (q5 Rw.zero hk2))) ?_
  rintro _ w29 ⟨rfl, hbw⟩
  refine ⟨_, rfl, ?_⟩
  replace HM := HM.call hbw
  clear HF; intro a HF
  refine fp HF 1 4 [(30, .bool (!(decide ((l.getD k Rw.zero).l = (m.getD k Rw.zero).l))))] fun a HF => ?_
  refine qb rfl ?_
  rcases HF.tf 30 rfl with ⟨hb30, HF⟩ | ⟨hb30, HF⟩
  ·
   have hd30 := of_decide_eq_false ((Bool.not_eq_true' _).mp hb30)
   refine qd HF rfl (wp_seq (qa ?_))
   refine fp HF 1 0 [(6, .bool false)] fun a HF => ?_
   refine qb rfl (wp_ret ?_)
   exact ret1 rfl HF (.tmp HF rfl) (is_no (qdq hk1 hk2 hd30) HM.below)
  have hd30 := of_decide_eq_true ((Bool.not_eq_false' _).mp hb30)
  refine qc HF rfl (wp_skip (qa ?_))
  refine fp HF 1 0 [(31, vI (IntKind.i64.wrap ((k : Int) + 1)))] fun a HF => ?_
  replace HF := HF.sp 31 (vI (k + 1 : Nat)) rfl (qi (by omega) (by omega))
  refine fp HF 1 1 [(17, vI (k + 1 : Nat))] fun a HF => ?_
  refine qb rfl ?_
  exact ⟨_, (by omega), k + 1, by omega, z1 (f := fun i => (l.getD i Rw.zero).l) (g := fun i => (m.getD i Rw.zero).l) hu hd30, rfl, HF.sub (by kernel_rfl), HM.picks [] (by decide) rfl⟩
 have hd18 := of_decide_eq_false hb18
 refine qc HF rfl (wp_exit (wp_seq (qa ?_)))
 refine fp HF 1 0 [(6, .bool true)] fun a HF => ?_
 refine qb rfl (wp_ret ?_)
 exact ret1 rfl HF (.tmp HF rfl) (qba (qfr hlm (fun i hi => hu i (by omega))) HM.below)
theorem qfw (s z : Snm) (w : World) (hx : StRd w s.st) (hz : StRd w z.st) (hf : StFew s.st) (hg : StFew z.st) :
    Calls Tryz.prog 31 #[.agg s.cells, .agg z.cells] w (Is w (.bool (decide (SnEq s z)))) := by
 refine qg (vs := [.agg s.cells, .agg z.cells]) Tryz.func31 rfl rfl (by kernel_rfl) (σ0 := [(0, .agg s.cells), (1, .agg z.cells)]) rfl ?_
 intro a HF
 have HM := Mem.start w
 refine wp_seq (qa ?_)
 refine fo HF 0 rfl rfl ?_
 refine e_box HF HM (cs := s.cells) rfl rfl rfl rfl (by decide) ?_
 clear HF HM; intro a w2 g2 HF HM
 refine fo HF 1 rfl rfl ?_
 refine e_box HF HM (cs := z.cells) rfl rfl rfl rfl (by decide) ?_
 clear HF HM; intro a w3 g3 HF HM
 refine fp HF 1 2 [(4, .bool false)] fun a HF => ?_
 refine qb rfl ?_
 refine qbe (fun aS wS => ∃ (g5 : Nat) (g6 : Nat), Fr aS 71 [] [(6, vP g6 0), (5, vP g5 0), (4, .bool false), (3, vP g3 0), (2, vP g2 0)] ∧ Mem w wS [.blk g6 z.st.cells 30, .blk g5 s.st.cells 30, .blk g3 z.cells 32, .blk g2 s.cells 32]) ?_ ?_
 ·
  refine zc HM [.blk g3 z.cells 32, .blk g2 s.cells 32] [0, 1] [7] fun HM HS => ?_
  refine ap HF (fun _ => HS) [0, 2] #[true, false, true, false, false, false, false, false] [(9, vP g3 1), (7, vP g2 1)] fun a HF => ?_
  refine ay HF HS 1 rfl rfl rfl (v := .agg #[vI s.st.cpus, vQ s.st.credit, .slice s.st.gA s.st.gs.length s.st.gc, .slice s.st.lA s.st.cl.length s.st.lc, .slice s.st.uA s.st.cu.length s.st.uc, .slice s.st.tA s.st.ts.length s.st.tc, .slice s.st.sA s.st.rs.length s.st.sc]) (Yl.qr rfl rfl si_st rfl (fun _ h => h.sub (i := 1) rfl 1 rfl)) fun a HF => ?_
  replace HF := HF.sp 8 (.agg s.st.cells) rfl (rfl)
  refine ay HF HS 3 rfl rfl rfl (v := .agg #[vI z.st.cpus, vQ z.st.credit, .slice z.st.gA z.st.gs.length z.st.gc, .slice z.st.lA z.st.cl.length z.st.lc, .slice z.st.uA z.st.cu.length z.st.uc, .slice z.st.tA z.st.ts.length z.st.tc, .slice z.st.sA z.st.rs.length z.st.sc]) (Yl.qr rfl rfl si_st rfl (fun _ h => h.sub (i := 0) rfl 1 rfl)) fun a HF => ?_
  replace HF := HF.sp 10 (.agg z.st.cells) rfl (rfl)
  refine qm [4, 5] (by kernel_rfl) rfl ?_
  refine all_cons ?_ ?_
  ·refine qk HF (i := 4) rfl rfl ?_
   refine qs HF HM (cs := #[vI 0, vQ 0, .slice none 0 0, .slice none 0 0, .slice none 0 0, .slice none 0 0, .slice none 0 0]) rfl (by kernel_rfl) rfl (by decide) ?_
   clear HF HM; intro a w5 g5 HF HM
   refine keepS (HM.picks [1, 2] (by decide) rfl) (fun HS => ?_)
   refine qm [5] (by kernel_rfl) rfl ?_
   refine all_cons ?_ all_nil
   refine qk HF (i := 5) rfl rfl ?_
   refine qs HF HM (cs := #[vI 0, vQ 0, .slice none 0 0, .slice none 0 0, .slice none 0 0, .slice none 0 0, .slice none 0 0]) rfl (by kernel_rfl) rfl (by decide) ?_
   clear HF HM; intro a w6 g6 HF HM
   refine keepS (HM.picks [2, 3] (by decide) rfl) (fun HS => ?_)
   refine qm [6] (by kernel_rfl) rfl ?_
   refine all_cons ?_ all_nil
   refine qk HF (i := 6) rfl rfl ?_
   refine e_sa HF HM 1 rfl rfl rfl rfl rfl si_st rfl rfl (qb6 s.st) ?_
   clear HM; intro w1_6 HM
   refine keepS (HM.picks [2, 3] (by decide) rfl) (fun HS => ?_)
   refine qm [7] (by kernel_rfl) rfl ?_
   refine all_cons ?_ all_nil
   refine qk HF (i := 7) rfl rfl ?_
   refine e_sa HF HM 0 rfl rfl rfl rfl rfl si_st rfl rfl (qb6 z.st) ?_
   clear HM; intro w1_7 HM
   refine noS (by kernel_rfl) ?_
   refine qq (by kernel_rfl) ?_
   exact ⟨g5, g6, HF.sub (by kernel_rfl), HM.picks [0, 1, 2, 3] (by decide) rfl⟩
  refine all_cons ?_ all_nil
  refine qk HF (i := 5) rfl rfl ?_
  refine qs HF HM (cs := #[vI 0, vQ 0, .slice none 0 0, .slice none 0 0, .slice none 0 0, .slice none 0 0, .slice none 0 0]) rfl (by kernel_rfl) rfl (by decide) ?_
  clear HF HM; intro a w6 g6 HF HM
  refine keepS (HM.picks [1, 2] (by decide) rfl) (fun HS => ?_)
  refine qm [4] (by kernel_rfl) rfl ?_
  refine all_cons ?_ all_nil
  refine qk HF (i := 4) rfl rfl ?_
  refine qs HF HM (cs := #[vI 0, vQ 0, .slice none 0 0, .slice none 0 0, .slice none 0 0, .slice none 0 0, .slice none 0 0]) rfl (by kernel_rfl) rfl (by decide) ?_
  clear HF HM; intro a w5 g5 HF HM
  refine keepS (HM.picks [2, 3] (by decide) rfl) (fun HS => ?_)
  refine qm [6] (by kernel_rfl) rfl ?_
  refine all_cons ?_ all_nil
  refine qk HF (i := 6) rfl rfl ?_
  refine e_sa HF HM 0 rfl rfl rfl rfl rfl si_st rfl rfl (qb6 s.st) ?_
  clear HM; intro w1_6 HM
  refine keepS (HM.picks [2, 3] (by decide) rfl) (fun HS => ?_)
  refine qm [7] (by kernel_rfl) rfl ?_
  refine all_cons ?_ all_nil
  refine qk HF (i := 7) rfl rfl ?_
  refine e_sa HF HM 1 rfl rfl rfl rfl rfl si_st rfl rfl (qb6 z.st) ?_
  clear HM; intro w1_7 HM
  refine noS (by kernel_rfl) ?_
  refine qq (by kernel_rfl) ?_
  exact ⟨g5, g6, HF.sub (by kernel_rfl), HM.picks [1, 0, 2, 3] (by decide) rfl⟩
 clear HF HM; rintro a w1 ⟨g5, g6, HF, HM⟩
 refine wp_seq (qa ?_)
 refine fp HF 1 0 [(11, vP g2 0)] fun a HF => ?_
 refine fy HF HM 1 rfl rfl rfl (v := vI s.next) (Yl.qf rfl rfl (by kernel_rfl) (fun _ h => h.cell (i := 3) rfl (rfl))) fun a HF => ?_
 refine fp HF 1 2 [(13, vP g3 0)] fun a HF => ?_
 refine fy HF HM 3 rfl rfl rfl (v := vI z.next) (Yl.qf rfl rfl (by kernel_rfl) (fun _ h => h.cell (i := 2) rfl (rfl))) fun a HF => ?_
 refine fp HF 2 4 [(16, .bool ((s.next : Int) == (z.next : Int)))] fun a HF => ?_
 rcases HF.tf 16 rfl with ⟨hb16, HF⟩ | ⟨hb16, HF⟩
 ·
  have hd16 := eq_of_beq hb16
  refine fp HF 2 6 [(18, vP g5 0)] fun a HF => ?_
  refine fy HF HM 8 rfl rfl rfl (v := vI s.st.cpus) (Yl.qf rfl rfl (by kernel_rfl) (fun _ h => h.cell (i := 1) rfl (rfl))) fun a HF => ?_
  refine fp HF 2 9 [(21, vP g6 0)] fun a HF => ?_
  refine fy HF HM 11 rfl rfl rfl (v := vI z.st.cpus) (Yl.qf rfl rfl (by kernel_rfl) (fun _ h => h.cell (i := 0) rfl (rfl))) fun a HF => ?_
  refine fp HF 3 12 [(25, .bool ((s.st.cpus : Int) == (z.st.cpus : Int)))] fun a HF => ?_
  rcases HF.tf 25 rfl with ⟨hb25, HF⟩ | ⟨hb25, HF⟩
  ·
   have hd25 := eq_of_beq hb25
   refine fp HF 2 15 [(27, vP g5 1)] fun a HF => ?_
   refine fy HF HM 17 rfl rfl rfl (v := vQ s.st.credit) (Yl.qf rfl rfl (by kernel_rfl) (fun _ h => h.cell (i := 1) rfl (rfl))) fun a HF => ?_
   refine fp HF 2 18 [(30, vP g6 1)] fun a HF => ?_
   refine fy HF HM 20 rfl rfl rfl (v := vQ z.st.credit) (Yl.qf rfl rfl (by kernel_rfl) (fun _ h => h.cell (i := 0) rfl (rfl))) fun a HF => ?_
   refine fp HF 3 21 [(34, .bool ((s.st.credit : Int) == (z.st.credit : Int)))] fun a HF => ?_
   rcases HF.tf 34 rfl with ⟨hb34, HF⟩ | ⟨hb34, HF⟩
   ·
    have hd34 := eq_of_beq hb34
    refine fp HF 2 24 [(36, vP g5 2)] fun a HF => ?_
    refine fy HF HM 26 rfl rfl rfl (v := .slice s.st.gA s.st.gs.length s.st.gc) (Yl.qf rfl rfl (by kernel_rfl) (fun _ h => h.cell (i := 1) rfl (rfl))) fun a HF => ?_
    refine fp HF 2 27 [(39, vP g6 2)] fun a HF => ?_
    refine fy HF HM 29 rfl rfl rfl (v := .slice z.st.gA z.st.gs.length z.st.gc) (Yl.qf rfl rfl (by kernel_rfl) (fun _ h => h.cell (i := 0) rfl (rfl))) fun a HF => ?_
    refine fo HF 30 rfl rfl ?_
    refine e_cl HF [.slice s.st.gA s.st.gs.length s.st.gc, .slice z.st.gA z.st.gs.length z.st.gc] rfl rfl (qss s.st.gA s.st.gc s.st.gs z.st.gA z.st.gc z.st.gs _ (HM.old hx.g) (HM.old hz.g) hf.g hg.g) ?_
    rintro _ w41 ⟨rfl, hbw⟩
    refine ⟨_, rfl, ?_⟩
    replace HM := HM.call hbw
    clear HF; intro a HF
    refine fp HF 2 31 [(43, .bool (decide (s.st.gs = z.st.gs)))] fun a HF => ?_
    rcases HF.tf 43 rfl with ⟨hb43, HF⟩ | ⟨hb43, HF⟩
    ·
     have hd43 := of_decide_eq_true hb43
     refine fp HF 1 33 [(44, vP g5 3)] fun a HF => ?_
     refine fy HF HM 34 rfl rfl rfl (v := .slice s.st.lA s.st.cl.length s.st.lc) (Yl.qf rfl rfl (by kernel_rfl) (fun _ h => h.cell (i := 1) rfl (rfl))) fun a HF => ?_
     refine fp HF 1 35 [(46, vP g6 3)] fun a HF => ?_
     refine fy HF HM 36 rfl rfl rfl (v := .slice z.st.lA z.st.cl.length z.st.lc) (Yl.qf rfl rfl (by kernel_rfl) (fun _ h => h.cell (i := 0) rfl (rfl))) fun a HF => ?_
     refine fo HF 37 rfl rfl ?_
     refine e_cl HF [.slice s.st.lA s.st.cl.length s.st.lc, .slice z.st.lA z.st.cl.length z.st.lc] rfl rfl (qjp s.st.lA s.st.lc s.st.cl z.st.lA z.st.lc z.st.cl _ (HM.old hx.l) (HM.old hz.l) hf.l hg.l) ?_
     rintro _ w48 ⟨rfl, hbw⟩
     refine ⟨_, rfl, ?_⟩
     replace HM := HM.call hbw
     clear HF; intro a HF
     refine fp HF 2 38 [(50, .bool (decide (s.st.cl = z.st.cl)))] fun a HF => ?_
     rcases HF.tf 50 rfl with ⟨hb50, HF⟩ | ⟨hb50, HF⟩
     ·
      have hd50 := of_decide_eq_true hb50
      refine fp HF 1 40 [(51, vP g5 4)] fun a HF => ?_
      refine fy HF HM 41 rfl rfl rfl (v := .slice s.st.uA s.st.cu.length s.st.uc) (Yl.qf rfl rfl (by kernel_rfl) (fun _ h => h.cell (i := 1) rfl (rfl))) fun a HF => ?_
      refine fp HF 1 42 [(53, vP g6 4)] fun a HF => ?_
      refine fy HF HM 43 rfl rfl rfl (v := .slice z.st.uA z.st.cu.length z.st.uc) (Yl.qf rfl rfl (by kernel_rfl) (fun _ h => h.cell (i := 0) rfl (rfl))) fun a HF => ?_
      refine fo HF 44 rfl rfl ?_
      refine e_cl HF [.slice s.st.uA s.st.cu.length s.st.uc, .slice z.st.uA z.st.cu.length z.st.uc] rfl rfl (qjp s.st.uA s.st.uc s.st.cu z.st.uA z.st.uc z.st.cu _ (HM.old hx.u) (HM.old hz.u) hf.u hg.u) ?_
      rintro _ w55 ⟨rfl, hbw⟩
      refine ⟨_, rfl, ?_⟩
      replace HM := HM.call hbw
      clear HF; intro a HF
      refine fp HF 2 45 [(57, .bool (decide (s.st.cu = z.st.cu)))] fun a HF => ?_
      rcases HF.tf 57 rfl with ⟨hb57, HF⟩ | ⟨hb57, HF⟩
      ·
       have hd57 := of_decide_eq_true hb57
       refine fp HF 1 47 [(58, vP g5 5)] fun a HF => ?_
       refine fy HF HM 48 rfl rfl rfl (v := .slice s.st.tA s.st.ts.length s.st.tc) (Yl.qf rfl rfl (by kernel_rfl) (fun _ h => h.cell (i := 1) rfl (rfl))) fun a HF => ?_
       refine fp HF 1 49 [(60, vP g6 5)] fun a HF => ?_
       refine fy HF HM 50 rfl rfl rfl (v := .slice z.st.tA z.st.ts.length z.st.tc) (Yl.qf rfl rfl (by kernel_rfl) (fun _ h => h.cell (i := 0) rfl (rfl))) fun a HF => ?_
       refine fo HF 51 rfl rfl ?_
       refine e_cl HF [.slice s.st.tA s.st.ts.length s.st.tc, .slice z.st.tA z.st.ts.length z.st.tc] rfl rfl (qst s.st.tA s.st.tc s.st.ts z.st.tA z.st.tc z.st.ts _ (HM.old hx.t) (HM.old hz.t) hf.t hg.t) ?_
       rintro _ w62 ⟨rfl, hbw⟩
       refine ⟨_, rfl, ?_⟩
       replace HM := HM.call hbw
       clear HF; intro a HF
       refine fp HF 2 52 [(64, .bool (decide (s.st.ts = z.st.ts)))] fun a HF => ?_
       rcases HF.tf 64 rfl with ⟨hb64, HF⟩ | ⟨hb64, HF⟩
       ·
        have hd64 := of_decide_eq_true hb64
        refine fp HF 1 54 [(65, vP g5 6)] fun a HF => ?_
        refine fy HF HM 55 rfl rfl rfl (v := .slice s.st.sA s.st.rs.length s.st.sc) (Yl.qf rfl rfl (by kernel_rfl) (fun _ h => h.cell (i := 1) rfl (rfl))) fun a HF => ?_
        refine fp HF 1 56 [(67, vP g6 6)] fun a HF => ?_
        refine fy HF HM 57 rfl rfl rfl (v := .slice z.st.sA z.st.rs.length z.st.sc) (Yl.qf rfl rfl (by kernel_rfl) (fun _ h => h.cell (i := 0) rfl (rfl))) fun a HF => ?_
        refine fo HF 58 rfl rfl ?_
        refine e_is HF HM [.slice s.st.sA s.st.rs.length s.st.sc, .slice z.st.sA z.st.rs.length z.st.sc, .func (.func 64) #[] #[]] (.bool (decide (rowsL s.st = rowsL z.st))) rfl rfl (qnj s.st.sA s.st.sc s.st.rs z.st.sA z.st.sc z.st.rs _ (HM.old hx.s) (HM.old hz.s) (fun y hy => HM.old (hx.r y hy)) (fun y hy => HM.old (hz.r y hy)) hf.s hg.s hf.r hg.r) fun w69 hbw HM a HF => ?_
        refine fp HF 2 59 [(4, .bool (decide (rowsL s.st = rowsL z.st)))] fun a HF => ?_
        refine qb rfl ?_
        replace HF := HF.to [(4, .bool (decide (rowsL s.st = rowsL z.st))), (6, vP g6 0), (5, vP g5 0), (3, vP g3 0), (2, vP g2 0)]
        refine wp_ret ?_
        exact ret1 rfl HF (.tmp HF rfl) (qep (p := SnEq s z) ⟨fun e => ⟨hd16, hd25, by omega, hd43, hd50, hd57, hd64, e⟩, fun h => h.2.2.2.2.2.2.2⟩ HM.below)
       have hd64 := of_decide_eq_false hb64
       refine fp HF 7 54 [(4, .bool false)] fun a HF => ?_
       refine qb rfl ?_
       replace HF := HF.to [(4, .bool false), (6, vP g6 0), (5, vP g5 0), (3, vP g3 0), (2, vP g2 0)]
       refine wp_ret ?_
       exact ret1 rfl HF (.tmp HF rfl) (is_no (p := SnEq s z) (fun ⟨e0, e1, e2, e3, e4, e5, e6, e7⟩ => hd64 (by rw [e6])) HM.below)
      have hd57 := of_decide_eq_false hb57
      refine fp HF 14 47 [(4, .bool false)] fun a HF => ?_
      refine qb rfl (wp_ret ?_)
      exact ret1 rfl HF (.tmp HF rfl) (is_no (p := SnEq s z) (fun ⟨e0, e1, e2, e3, e4, e5, e6, e7⟩ => hd57 (by rw [e5])) HM.below)
     have hd50 := of_decide_eq_false hb50
     refine fp HF 21 40 [(4, .bool false)] fun a HF => ?_
     refine qb rfl (wp_ret ?_)
     exact ret1 rfl HF (.tmp HF rfl) (is_no (p := SnEq s z) (fun ⟨e0, e1, e2, e3, e4, e5, e6, e7⟩ => hd50 (by rw [e4])) HM.below)
    have hd43 := of_decide_eq_false hb43
    refine fp HF 28 33 [(4, .bool false)] fun a HF => ?_
    refine qb rfl (wp_ret ?_)
    exact ret1 rfl HF (.tmp HF rfl) (is_no (p := SnEq s z) (fun ⟨e0, e1, e2, e3, e4, e5, e6, e7⟩ => hd43 (by rw [e3])) HM.below)
   have hd34 := ne_of_beq_false hb34
   refine fp HF 37 24 [(4, .bool false)] fun a HF => ?_
   refine qb rfl (wp_ret ?_)
   exact ret1 rfl HF (.tmp HF rfl) (is_no (p := SnEq s z) (fun ⟨e0, e1, e2, e3, e4, e5, e6, e7⟩ => hd34 (by rw [e2])) HM.below)
  have hd25 := ne_of_beq_false hb25
  refine fp HF 46 15 [(4, .bool false)] fun a HF => ?_
  refine qb rfl (wp_ret ?_)
  exact ret1 rfl HF (.tmp HF rfl) (is_no (p := SnEq s z) (fun ⟨e0, e1, e2, e3, e4, e5, e6, e7⟩ => hd25 (by rw [e1])) HM.below)
 have hd16 := ne_of_beq_false hb16
 refine fp HF 55 6 [(4, .bool false)] fun a HF => ?_
 refine qb rfl (wp_ret ?_)
 exact ret1 rfl HF (.tmp HF rfl) (is_no (p := SnEq s z) (fun ⟨e0, e1, e2, e3, e4, e5, e6, e7⟩ => hd16 (by rw [e0])) HM.below)
theorem qc7 (A : Option Addr) (c : Nat) (l : List Int) (w : World) (hr : Rd w w.heap.size 1 A l.length (l.map I64i)) (hn : l.length ≤ 1000000) :
    Calls Tryz.prog 110 #[.slice A l.length c] w (qa7 w (l.map toU)) := by
 refine qg (vs := [.slice A l.length c]) Tryz.func110 rfl rfl (by kernel_rfl) (σ0 := [(0, .slice A l.length c)]) rfl ?_
 intro a HF
 have HM := Mem.start w
 refine wp_seq (qa ?_)
 refine fp HF 1 0 [(2, .slice none 0 0)] fun a HF => ?_
 refine qb rfl (wp_seq (qa ?_))
 refine fp HF 1 0 [(3, .slice none 0 0)] fun a HF => ?_
 refine qb rfl ?_
 replace HM := HM.nil 22 1
 refine wp_seq (wp_seq (qa ?_))
 refine fp HF 1 0 [(6, .slice A l.length c)] fun a HF => ?_
 refine fy HF HM 1 rfl rfl rfl (Yl.len rfl rfl (by kernel_rfl)) fun a HF => ?_
 refine fp HF 1 2 [(8, vI 0)] fun a HF => ?_
 refine qb rfl (wp_block ?_)
 refine qo (fun mS aS wS => ∃ (k : Nat) (q : List Nat) (Ao : Option Addr) (co : Nat), (k ≤ l.length) ∧ (q = (l.take k).map toU) ∧ (q.length = k) ∧ (q.length ≤ co) ∧ mS = l.length - k ∧ Fr aS 19 [] [(8, vI k), (7, vI l.length), (6, .slice A l.length c), (3, .slice Ao q.length co), (2, .slice none 0 0)] ∧ Mem w wS [.row (.slice Ao q.length co) q.length (q.map U64) 22 1]) (m := l.length - 0) ⟨0, [], none, 0, Nat.zero_le _, rfl, rfl, Nat.le_refl _, rfl, HF.sub (by kernel_rfl), HM.picks [0] (by decide) rfl⟩ ?_
 clear HF HM; rintro mS a w_ ⟨k, q, Ao, co, hk, hq, hql, hco, rfl, HF, HM⟩
 refine wp_seq (qa ?_)
 refine fp HF 1 0 [(9, .bool (decide ((k : Int) < (l.length : Int))))] fun a HF => ?_
 refine qb rfl (wp_seq ?_)
 rcases HF.tf 9 rfl with ⟨hb9, HF⟩ | ⟨hb9, HF⟩
 ·
  have hd9 := of_decide_eq_true hb9
  have hk9 : k < l.length := by omega
  refine qd HF rfl (wp_skip (wp_seq (wp_block (wp_seq (qa ?_)))))
  obtain ⟨gA, oA, rfl, _⟩ := hr.qp (Nat.lt_of_le_of_lt (Nat.zero_le _) (show k < l.length from by omega)) (by decide)
  refine fy HF HM 0 rfl rfl rfl (v := vP gA (oA + k * 1)) (Yl.ix gA oA k 1 rfl rfl rfl) fun a HF => ?_
  refine fy HF HM 1 rfl rfl rfl (v := vI (l.getD k 0)) (Yl.qf rfl rfl (by kernel_rfl) (fun _ h => (h.old hr).q7 (k := k) (qz (F := I64i) (k := k) (x := (l.getD k 0)) ((getD_at 0 hk9))))) fun a HF => ?_
  refine fp HF 1 2 [(5, vI (l.getD k 0))] fun a HF => ?_
  refine qb rfl (qa ?_)
  refine fp HF 3 0 [(14, vQ (IntKind.u64.wrap (l.getD k 0))), (12, .slice Ao q.length co)] fun a HF => ?_
  replace HF := HF.sp 14 (vQ (toU (l.getD k 0))) rfl (zb _)
  refine fo HF 3 rfl rfl ?_
  refine qt HF HM (vs := [(0, vQ (toU (l.getD k 0)))]) (cs := #[vQ (toU (l.getD k 0))]) rfl za (by decide) rfl (by kernel_rfl) rfl (by decide) ?_
  clear HF HM; intro a w15 g15 HF HM
  refine fo HF 4 rfl rfl ?_
  refine qw HF HM (i := 1) rfl za rfl rfl rfl (news := ([toU (l.getD k 0)].map U64)) (HM.rdBlk (i := 0) (n := 1) (size := 1) rfl rfl) (zn _) (by omega) (by omega) rfl (by decide) ?_
  clear HF HM; intro a w16 A16 c16 HF HM hc16
  refine fp HF 1 5 [(3, .slice A16 (q.length + 1) c16)] fun a HF => ?_
  refine qb rfl ?_
  have hnA16 : q.length + 1 = (q ++ [toU (l.getD k 0)]).length := zd rfl
  replace HM := HM.reRow (i := 1) (ys := (q ++ [toU (l.getD k 0)]).map U64) rfl hnA16 (List.map_append.symm)
  rw [hnA16] at hc16
  replace HF := HF.as (t := 3) (u := .slice A16 ((q ++ [toU (l.getD k 0)]).length) c16) rfl (by rw [hnA16])
  replace HF := HF.as (t := 16) (u := .slice A16 ((q ++ [toU (l.getD k 0)]).length) c16) rfl (by rw [hnA16])
  refine qa ?_
  refine fp HF 1 0 [(17, vI (IntKind.i64.wrap ((k : Int) + 1)))] fun a HF => ?_
  replace HF := HF.sp 17 (vI (k + 1 : Nat)) rfl (qi (by omega) (by omega))
  refine fp HF 1 1 [(8, vI (k + 1 : Nat))] fun a HF => ?_
  refine qb rfl ?_
  exact ⟨_, (by omega), k + 1, (q ++ [toU (l.getD k 0)]), A16, c16, by omega, by rw [hq, qca hk9], by rw [List.length_append, hql]; rfl, hc16, rfl, HF.sub (by kernel_rfl), HM.picks [1] (by decide) rfl⟩
 have hd9 := of_decide_eq_false hb9
 refine qc HF rfl (wp_exit (wp_seq (qa ?_)))
 refine fp HF 2 0 [(2, .slice Ao q.length co)] fun a HF => ?_
 refine qb rfl (wp_ret ?_)
 exact ret1 rfl HF (.tmp HF rfl) (ze (by rw [hq, List.take_of_length_le (by omega)]) (HM.own (i := 0) rfl) hco HM.below)
theorem qbt (A : Option Addr) (c n : Nat) (l : List Int) (R : List Nat) (w : World) (hl : l.length = n) (hr : Rd w w.heap.size 1 A n (l.map I64i)) (hn : n ≤ 1000000) (hR : l.map toU = R) :
  Calls Tryz.prog 110 #[.slice A n c] w (qa7 w R) := by
 subst hl; subst hR
 exact qc7 A c l w hr hn
theorem qqo (s : Snm) (hok : s.st.sta.Ok) (hf : StFew s.st) (w : World) (hx : StRd w s.st) :
    Calls Tryz.prog 81 #[.agg s.cells] w (qa7 w (secN s 0)) := by
 refine qg (vs := [.agg s.cells]) Tryz.func81 rfl rfl (by kernel_rfl) (σ0 := [(0, .agg s.cells)]) rfl ?_
 intro a HF
 have HM := Mem.start w
 refine wp_seq (qa ?_)
 refine fo HF 0 rfl rfl ?_
 refine e_box HF HM (cs := s.cells) rfl rfl rfl rfl (by decide) ?_
 clear HF HM; intro a w1 g1 HF HM
 refine fp HF 1 1 [(2, .slice none 0 0)] fun a HF => ?_
 refine qb rfl (wp_seq (qa ?_))
 refine fp HF 1 0 [(3, vP g1 0)] fun a HF => ?_
 refine fy HF HM 1 rfl rfl rfl (v := vI s.next) (Yl.qf rfl rfl (by kernel_rfl) (fun _ h => h.cell (i := 0) rfl (rfl))) fun a HF => ?_
 refine fo HF 2 rfl rfl ?_
 refine qt HF HM (vs := [(0, vI s.next)]) (cs := #[vI s.next]) rfl qa9 (by decide) rfl (by kernel_rfl) rfl (by decide) ?_
 clear HF HM; intro a w5 g5 HF HM
 refine fo HF 3 rfl rfl ?_
 refine e_cl HF [vS g5 1 1] rfl rfl (qbt (some ⟨g5, 0, none⟩) 1 1 [s.next] [toU s.next] _ rfl (HM.rdBlk (i := 0) (n := 1) (size := 1) rfl rfl) (by decide) rfl) ?_
 rintro _ w6 ⟨⟨A6, c6, rfl, ho, hc6⟩, hbw⟩
 refine ⟨_, rfl, ?_⟩
 replace HM := HM.callRow hbw ho
 clear HF; intro a HF
 have hrl6 : [toU s.next].length = 1 := rfl
 refine fp HF 1 4 [(2, .slice A6 ([toU s.next].length) c6)] fun a HF => ?_
 refine qb rfl (wp_ret ?_)
 exact ret1 rfl HF (.tmp HF rfl) (ze rfl (HM.own (i := 0) rfl) hc6 HM.below)
theorem qkn (s : Snm) (hok : s.st.sta.Ok) (hf : StFew s.st) (w : World) (hx : StRd w s.st) :
    Calls Tryz.prog 82 #[.agg s.cells] w (qa7 w (secN s 1)) := by
 have hgl := hf.g
 refine qg (vs := [.agg s.cells]) Tryz.func82 rfl rfl (by kernel_rfl) (σ0 := [(0, .agg s.cells)]) rfl ?_
 intro a HF
 have HM := Mem.start w
 refine wp_seq (qa ?_)
 refine fo HF 0 rfl rfl ?_
 refine e_box HF HM (cs := s.cells) rfl rfl rfl rfl (by decide) ?_
 clear HF HM; intro a w1 g1 HF HM
 refine fp HF 1 1 [(2, .slice none 0 0)] fun a HF => ?_
 refine qb rfl (wp_seq (qa ?_))
 refine fp HF 2 0 [(5, vP g1 1)] fun a HF => ?_
 refine fy HF HM 2 rfl rfl rfl (v := .agg #[vI s.st.cpus, vQ s.st.credit, .slice s.st.gA s.st.gs.length s.st.gc]) (Yl.qr rfl rfl qas rfl (fun _ h => h.sub (i := 0) rfl 1 rfl)) fun a HF => ?_
 refine fo HF 3 rfl rfl ?_
 refine qs HF HM (cs := #[vI 0, vQ 0, .slice none 0 0]) rfl (by kernel_rfl) rfl (by decide) ?_
 clear HF HM; intro a w3 g3 HF HM
 refine fo HF 4 rfl rfl ?_
 refine e_sa HF HM 0 rfl rfl rfl rfl rfl qas rfl rfl (by simp [Value.oneCell']) ?_
 clear HM; intro w1_4 HM
 refine qb rfl (wp_seq (qa ?_))
 refine fp HF 1 0 [(7, vP g3 0)] fun a HF => ?_
 refine fy HF HM 1 rfl rfl rfl (Yl.qf rfl rfl (by kernel_rfl) (fun _ h => h.cell (i := 0) rfl rfl)) fun a HF => ?_
 refine fp HF 1 2 [(9, vQ (IntKind.u64.wrap s.st.cpus))] fun a HF => ?_
 replace HF := HF.sp 9 (vQ (toU s.st.cpus)) rfl (zb _)
 refine fp HF 1 3 [(10, vP g3 1)] fun a HF => ?_
 refine fy HF HM 4 rfl rfl rfl (Yl.qf rfl rfl (by kernel_rfl) (fun _ h => h.cell (i := 0) rfl rfl)) fun a HF => ?_
 refine fp HF 1 5 [(12, vP g3 2)] fun a HF => ?_
 refine fy HF HM 6 rfl rfl rfl (Yl.qf rfl rfl (by kernel_rfl) (fun _ h => h.cell (i := 0) rfl rfl)) fun a HF => ?_
 refine fy HF HM 7 rfl rfl rfl (Yl.len rfl rfl (by kernel_rfl)) fun a HF => ?_
 refine fp HF 1 8 [(15, vQ (IntKind.u64.wrap (s.st.gs.length : Int)))] fun a HF => ?_
 replace HF := HF.sp 15 (vQ s.st.gs.length) rfl (qah rfl (by omega))
 refine fo HF 9 rfl rfl ?_
 refine qt HF HM (vs := [(0, vQ (toU s.st.cpus)), (1, vQ s.st.credit), (2, vQ s.st.gs.length)]) (cs := #[vQ (toU s.st.cpus), vQ s.st.credit, vQ s.st.gs.length]) rfl za (by decide) rfl (by kernel_rfl) rfl (by decide) ?_
 clear HF HM; intro a w16 g16 HF HM
 refine fp HF 1 10 [(2, vS g16 3 3)] fun a HF => ?_
 refine qb rfl ?_
 replace HM := (HM.blkRow (i := 0) (n := 3) (size := 1) rfl rfl (by decide)).asRow (i := 0) (ys := [toU s.st.cpus, s.st.credit, s.st.gs.length].map U64) rfl (rfl)
 refine wp_ret ?_
 exact ret1 rfl HF (.tmp HF rfl) (ze (q := [toU s.st.cpus, s.st.credit, s.st.gs.length]) rfl (HM.own (i := 0) rfl) (Nat.le_refl 3) HM.below)
theorem qko (s : Snm) (hok : s.st.sta.Ok) (hf : StFew s.st) (w : World) (hx : StRd w s.st) :
    Calls Tryz.prog 84 #[.agg s.cells] w (qa7 w (secN s 3)) := by
 refine qg (vs := [.agg s.cells]) Tryz.func84 rfl rfl (by kernel_rfl) (σ0 := [(0, .agg s.cells)]) rfl ?_
 intro a HF
 have HM := Mem.start w
 refine wp_seq (qa ?_)
 refine fo HF 0 rfl rfl ?_
 refine e_box HF HM (cs := s.cells) rfl rfl rfl rfl (by decide) ?_
 clear HF HM; intro a w1 g1 HF HM
 refine fp HF 1 1 [(2, .slice none 0 0)] fun a HF => ?_
 refine qb rfl (wp_seq (qa ?_))
 refine fp HF 2 0 [(4, vP g1 4)] fun a HF => ?_
 refine fy HF HM 2 rfl rfl rfl (v := .slice s.st.lA s.st.cl.length s.st.lc) (Yl.qf rfl rfl (by kernel_rfl) (fun _ h => h.cell (i := 0) rfl (rfl))) fun a HF => ?_
 refine fo HF 3 rfl rfl ?_
 refine e_cl HF [.slice s.st.lA s.st.cl.length s.st.lc] rfl rfl (qc7 s.st.lA s.st.lc s.st.cl _ (HM.old hx.l) hf.l) ?_
 rintro _ w6 ⟨⟨A6, c6, rfl, ho, hc6⟩, hbw⟩
 refine ⟨_, rfl, ?_⟩
 replace HM := HM.callRow hbw ho
 clear HF; intro a HF
 refine fp HF 1 4 [(2, .slice A6 ((s.st.cl.map toU).length) c6)] fun a HF => ?_
 refine qb rfl (wp_ret ?_)
 exact ret1 rfl HF (.tmp HF rfl) (ze rfl (HM.own (i := 0) rfl) hc6 HM.below)
theorem qje (s : Snm) (hok : s.st.sta.Ok) (hf : StFew s.st) (w : World) (hx : StRd w s.st) :
    Calls Tryz.prog 85 #[.agg s.cells] w (qa7 w (secN s 4)) := by
 refine qg (vs := [.agg s.cells]) Tryz.func85 rfl rfl (by kernel_rfl) (σ0 := [(0, .agg s.cells)]) rfl ?_
 intro a HF
 have HM := Mem.start w
 refine wp_seq (qa ?_)
 refine fo HF 0 rfl rfl ?_
 refine e_box HF HM (cs := s.cells) rfl rfl rfl rfl (by decide) ?_
 clear HF HM; intro a w1 g1 HF HM
 refine fp HF 1 1 [(2, .slice none 0 0)] fun a HF => ?_
 refine qb rfl (wp_seq (qa ?_))
 refine fp HF 2 0 [(4, vP g1 5)] fun a HF => ?_
 refine fy HF HM 2 rfl rfl rfl (v := .slice s.st.uA s.st.cu.length s.st.uc) (Yl.qf rfl rfl (by kernel_rfl) (fun _ h => h.cell (i := 0) rfl (rfl))) fun a HF => ?_
 refine fo HF 3 rfl rfl ?_
 refine e_cl HF [.slice s.st.uA s.st.cu.length s.st.uc] rfl rfl (qc7 s.st.uA s.st.uc s.st.cu _ (HM.old hx.u) hf.u) ?_
 rintro _ w6 ⟨⟨A6, c6, rfl, ho, hc6⟩, hbw⟩
 refine ⟨_, rfl, ?_⟩
 replace HM := HM.callRow hbw ho
 clear HF; intro a HF
 refine fp HF 1 4 [(2, .slice A6 ((s.st.cu.map toU).length) c6)] fun a HF => ?_
 refine qb rfl (wp_ret ?_)
 exact ret1 rfl HF (.tmp HF rfl) (ze rfl (HM.own (i := 0) rfl) hc6 HM.below)
theorem qkp (s : Snm) (hok : s.st.sta.Ok) (hf : StFew s.st) (w : World) (hx : StRd w s.st) (hc : StCap s.st) (hsh : ShAt s.st) :
    Calls Tryz.prog 83 #[.agg s.cells] w (qa7 w (secN s 2)) := by
 have hgl := hf.g; have hgc := hc.g
 have hg1 := (qe6 (qcq hsh.cfg).2.2.2).1
 obtain ⟨gA2, hgA2⟩ : ∃ z, (if s.st.gc = 1 then s.st.gA else s.st.gA.map (·.add (1 * 2))) = z := ⟨_, rfl⟩
 have hr2 := qt3 hx.g hg1 hgc hgA2
 obtain ⟨m, hm⟩ : ∃ z, s.st.gs.drop 1 = z := ⟨_, rfl⟩
 have hml : m.length = s.st.gs.length - 1 := by rw [← hm, List.length_drop]
 rw [hm] at hr2
 refine qg (vs := [.agg s.cells]) Tryz.func83 rfl rfl (by kernel_rfl) (σ0 := [(0, .agg s.cells)]) rfl ?_
 intro a HF
 have HM := Mem.start w
 refine wp_seq (qa ?_)
 refine fo HF 0 rfl rfl ?_
 refine e_box HF HM (cs := s.cells) rfl rfl rfl rfl (by decide) ?_
 clear HF HM; intro a w1 g1 HF HM
 refine fp HF 1 1 [(2, .slice none 0 0)] fun a HF => ?_
 refine qb rfl (wp_seq (qa ?_))
 refine fp HF 1 0 [(3, .slice none 0 0)] fun a HF => ?_
 refine qb rfl ?_
 replace HM := HM.nil 22 1
 refine wp_seq (wp_seq (qa ?_))
 refine fp HF 3 0 [(8, vP g1 3)] fun a HF => ?_
 refine fy HF HM 3 rfl rfl rfl (v := .slice s.st.gA s.st.gs.length s.st.gc) (Yl.qf rfl rfl (by kernel_rfl) (fun _ h => h.cell (i := 1) rfl (rfl))) fun a HF => ?_
 refine fy HF HM 4 rfl rfl rfl (v := .slice (if s.st.gc = 1 then s.st.gA else (s.st.gA : Option Addr).map (·.add (1 * 2))) (s.st.gs.length - 1) (s.st.gc - 1)) (Yl.sliceFrom ei_gr (j := 1) rfl rfl rfl (by omega)) fun a HF => ?_
 replace HF := HF.sp 10 (.slice gA2 m.length (s.st.gc - 1)) rfl (by rw [hgA2, hml])
 refine fy HF HM 5 rfl rfl rfl (Yl.len rfl rfl (by kernel_rfl)) fun a HF => ?_
 refine fp HF 1 6 [(12, vI 0)] fun a HF => ?_
 refine qb rfl (wp_block ?_)
 refine qo (fun mS aS wS => ∃ (k : Nat) (q : List Nat) (Ao : Option Addr) (co : Nat), (k ≤ m.length) ∧ (q = upF k (gsN s.st.gs)) ∧ (q.length = 2 * k) ∧ (q.length ≤ co) ∧ mS = m.length - k ∧ Fr aS 26 [] [(12, vI k), (11, vI m.length), (10, .slice gA2 m.length (s.st.gc - 1)), (3, .slice Ao q.length co), (2, .slice none 0 0)] ∧ Mem w wS [.row (.slice Ao q.length co) q.length (q.map U64) 22 1, .blk g1 s.cells 32]) (m := m.length - 0) ⟨0, [], none, 0, Nat.zero_le _, rfl, rfl, Nat.le_refl _, rfl, HF.sub (by kernel_rfl), HM.picks [0, 1] (by decide) rfl⟩ ?_
 clear HF HM; rintro mS a w_ ⟨k, q, Ao, co, hk, hq, hql, hco, rfl, HF, HM⟩
 refine wp_seq (qa ?_)
 refine fp HF 1 0 [(13, .bool (decide ((k : Int) < (m.length : Int))))] fun a HF => ?_
 refine qb rfl (wp_seq ?_)
 rcases HF.tf 13 rfl with ⟨hb13, HF⟩ | ⟨hb13, HF⟩
 ·
  have hd13 := of_decide_eq_true hb13
  have hk13 : k < m.length := by omega
  refine qd HF rfl (wp_skip (wp_seq (wp_block (wp_seq (qa ?_)))))
  obtain ⟨ggA2, ogA2, rfl, _⟩ := hr2.qp (Nat.lt_of_le_of_lt (Nat.zero_le _) (show k < m.length from by omega)) (by decide)
  refine fy HF HM 0 rfl rfl rfl (v := vP ggA2 (ogA2 + k * 2)) (Yl.ix ggA2 ogA2 k 2 rfl rfl rfl) fun a HF => ?_
  refine fy HF HM 1 rfl rfl rfl (v := .agg ((m.getD k Gr.zero).cells)) (Yl.qr rfl rfl si_gr rfl (fun _ h => (h.old hr2).q6 zk ((getD_at Gr.zero hk13)))) fun a HF => ?_
  refine fo HF 2 rfl rfl ?_
  refine qs HF HM (cs := #[vI 0, vI 0]) rfl (by kernel_rfl) rfl (by decide) ?_
  clear HF HM; intro a w5 g5 HF HM
  refine fo HF 3 rfl rfl ?_
  refine e_sa HF HM 0 rfl rfl rfl rfl rfl si_gr rfl rfl (qvm (m.getD k Gr.zero)) ?_
  clear HM; intro w4_3 HM
  refine qb rfl (qa ?_)
  refine fp HF 2 0 [(17, vP g5 0), (16, .slice Ao q.length co)] fun a HF => ?_
  refine fy HF HM 2 rfl rfl rfl (v := vI ((m.getD k Gr.zero).parent)) (Yl.qf rfl rfl (by kernel_rfl) (fun _ h => h.cell (i := 0) rfl (rfl))) fun a HF => ?_
  refine fp HF 1 3 [(19, vP g5 1)] fun a HF => ?_
  refine fy HF HM 4 rfl rfl rfl (v := vI ((m.getD k Gr.zero).weight)) (Yl.qf rfl rfl (by kernel_rfl) (fun _ h => h.cell (i := 0) rfl (rfl))) fun a HF => ?_
  refine fo HF 5 rfl rfl ?_
  refine qt HF HM (vs := [(0, vI ((m.getD k Gr.zero).parent)), (1, vI ((m.getD k Gr.zero).weight))]) (cs := #[vI ((m.getD k Gr.zero).parent), vI ((m.getD k Gr.zero).weight)]) rfl qa9 (by decide) rfl (by kernel_rfl) rfl (by decide) ?_
  clear HF HM; intro a w21 g21 HF HM
  refine fo HF 6 rfl rfl ?_
  refine e_cl HF [vS g21 2 2] rfl rfl (qbt (some ⟨g21, 0, none⟩) 2 2 [(m.getD k Gr.zero).parent, (m.getD k Gr.zero).weight] [toU (m.getD k Gr.zero).parent, toU (m.getD k Gr.zero).weight] _ rfl (HM.rdBlk (i := 0) (n := 2) (size := 1) rfl rfl) (by decide) rfl) ?_
  rintro _ w22 ⟨⟨A22, c22, rfl, ho, hc22⟩, hbw⟩
  refine ⟨_, rfl, ?_⟩
  replace HM := HM.callRow hbw ho
  clear HF; intro a HF
  have hrl22 : [toU (m.getD k Gr.zero).parent, toU (m.getD k Gr.zero).weight].length = 2 := rfl
  refine fo HF 7 rfl rfl ?_
  refine qw HF HM (i := 3) rfl za rfl rfl rfl (news := ([toU (m.getD k Gr.zero).parent, toU (m.getD k Gr.zero).weight].map U64)) (HM.rd (i := 0) rfl) (zn _) (by omega) (by omega) rfl (by decide) ?_
  clear HF HM; intro a w23 A23 c23 HF HM hc23
  refine fp HF 1 8 [(3, .slice A23 (q.length + ([toU (m.getD k Gr.zero).parent, toU (m.getD k Gr.zero).weight].length)) c23)] fun a HF => ?_
  refine qb rfl ?_
  have hnA23 : q.length + ([toU (m.getD k Gr.zero).parent, toU (m.getD k Gr.zero).weight].length) = (q ++ [toU (m.getD k Gr.zero).parent, toU (m.getD k Gr.zero).weight]).length := zd rfl
  replace HM := HM.reRow (i := 3) (ys := (q ++ [toU (m.getD k Gr.zero).parent, toU (m.getD k Gr.zero).weight]).map U64) rfl hnA23 (List.map_append.symm)
  rw [hnA23] at hc23
  replace HF := HF.as (t := 3) (u := .slice A23 ((q ++ [toU (m.getD k Gr.zero).parent, toU (m.getD k Gr.zero).weight]).length) c23) rfl (by rw [hnA23])
  replace HF := HF.as (t := 23) (u := .slice A23 ((q ++ [toU (m.getD k Gr.zero).parent, toU (m.getD k Gr.zero).weight]).length) c23) rfl (by rw [hnA23])
  refine qa ?_
  refine fp HF 1 0 [(24, vI (IntKind.i64.wrap ((k : Int) + 1)))] fun a HF => ?_
  replace HF := HF.sp 24 (vI (k + 1 : Nat)) rfl (qi (by omega) (by omega))
  refine fp HF 1 1 [(12, vI (k + 1 : Nat))] fun a HF => ?_
  refine qb rfl ?_
  exact ⟨_, (by omega), k + 1, (q ++ [toU (m.getD k Gr.zero).parent, toU (m.getD k Gr.zero).weight]), A23, c23, by omega, by rw [hq, qv, ← hm, getD_drop]; rfl, by rw [List.length_append, hql]; rfl, hc23, rfl, HF.sub (by kernel_rfl), HM.picks [3, 4] (by decide) rfl⟩
 have hd13 := of_decide_eq_false hb13
 refine qc HF rfl (wp_exit (wp_seq (qa ?_)))
 refine fp HF 2 0 [(2, .slice Ao q.length co)] fun a HF => ?_
 refine qb rfl (wp_ret ?_)
 exact ret1 rfl HF (.tmp HF rfl) (ze (by rw [hq, show k = s.st.gs.length - 1 by omega]; try rfl) (HM.own (i := 0) rfl) hco HM.below)
theorem qnb (s : Snm) (hok : s.st.sta.Ok) (hf : StFew s.st) (w : World) (hx : StRd w s.st) (hc : StCap s.st) (hsh : ShAt s.st) :
    Calls Tryz.prog 86 #[.agg s.cells] w (qa7 w (secN s 5)) := by
 have htl := hf.t
 refine qg (vs := [.agg s.cells]) Tryz.func86 rfl rfl (by kernel_rfl) (σ0 := [(0, .agg s.cells)]) rfl ?_
 intro a HF
 have HM := Mem.start w
 refine wp_seq (qa ?_)
 refine fo HF 0 rfl rfl ?_
 refine e_box HF HM (cs := s.cells) rfl rfl rfl rfl (by decide) ?_
 clear HF HM; intro a w1 g1 HF HM
 refine fp HF 1 1 [(2, .slice none 0 0)] fun a HF => ?_
 refine qb rfl (wp_seq (qa ?_))
 refine fp HF 2 0 [(9, vP g1 6)] fun a HF => ?_
 refine fy HF HM 2 rfl rfl rfl (v := .slice s.st.tA s.st.ts.length s.st.tc) (Yl.qf rfl rfl (by kernel_rfl) (fun _ h => h.cell (i := 0) rfl (rfl))) fun a HF => ?_
 refine fy HF HM 3 rfl rfl rfl (Yl.len rfl rfl (by kernel_rfl)) fun a HF => ?_
 refine fo HF 4 rfl rfl ?_
 refine qt HF HM (vs := [(0, vI s.st.ts.length)]) (cs := #[vI s.st.ts.length]) rfl qa9 (by decide) rfl (by kernel_rfl) rfl (by decide) ?_
 clear HF HM; intro a w12 g12 HF HM
 refine fo HF 5 rfl rfl ?_
 refine e_cl HF [vS g12 1 1] rfl rfl (qbt (some ⟨g12, 0, none⟩) 1 1 [(s.st.ts.length : Int)] [toU (s.st.ts.length : Int)] _ rfl (HM.rdBlk (i := 0) (n := 1) (size := 1) rfl rfl) (by decide) rfl) ?_
 rintro _ w13 ⟨⟨A13, c13, rfl, ho, hc13⟩, hbw⟩
 refine ⟨_, rfl, ?_⟩
 replace HM := HM.callRow hbw ho
 clear HF; intro a HF
 have hrl13 : [toU (s.st.ts.length : Int)].length = 1 := rfl
 refine fp HF 1 6 [(3, .slice A13 ([toU (s.st.ts.length : Int)].length) c13)] fun a HF => ?_
 refine qb rfl ?_
 have hnA13 : [toU (s.st.ts.length : Int)].length = [s.st.ts.length].length := rfl
 replace HM := HM.reRow (i := 0) (ys := [s.st.ts.length].map U64) rfl hnA13 (by rw [qt2 (by omega)])
 rw [hnA13] at hc13
 replace HF := HF.as (t := 3) (u := .slice A13 ([s.st.ts.length].length) c13) rfl (by rw [hnA13])
 replace HF := HF.as (t := 13) (u := .slice A13 ([s.st.ts.length].length) c13) rfl (by rw [hnA13])
 refine wp_seq (qa ?_)
 refine fp HF 1 0 [(4, vI 0)] fun a HF => ?_
 refine qb rfl (wp_seq (wp_seq (qa ?_)))
 refine fp HF 2 0 [(15, vP g1 6)] fun a HF => ?_
 refine fy HF HM 2 rfl rfl rfl (v := .slice s.st.tA s.st.ts.length s.st.tc) (Yl.qf rfl rfl (by kernel_rfl) (fun _ h => h.cell (i := 2) rfl (rfl))) fun a HF => ?_
 refine fy HF HM 3 rfl rfl rfl (Yl.len rfl rfl (by kernel_rfl)) fun a HF => ?_
 refine fp HF 1 4 [(18, vI 0)] fun a HF => ?_
 refine qb rfl (wp_block ?_)
 refine qo (fun mS aS wS => ∃ (k : Nat) (q : List Nat) (Ao : Option Addr) (co : Nat), (k ≤ s.st.ts.length) ∧ (0 ≤ qn s.st.ts k ∧ qn s.st.ts k ≤ 65535) ∧ (q = [s.st.ts.length] ++ upF k fun i => tkN (qn s.st.ts i) (s.st.ts.getD i Tk.zero)) ∧ (q.length = 8 * k + 1) ∧ (q.length ≤ co) ∧ mS = s.st.ts.length - k ∧ Fr aS 53 [] [(18, vI k), (17, vI s.st.ts.length), (16, .slice s.st.tA s.st.ts.length s.st.tc), (4, vI (qn s.st.ts k)), (13, .slice A13 ([s.st.ts.length].length) c13), (3, .slice Ao q.length co), (2, .slice none 0 0), (1, vP g1 0)] ∧ Mem w wS [.row (.slice Ao q.length co) q.length (q.map U64) 22 1, .blk g12 #[vI s.st.ts.length] 3, .blk g1 s.cells 32]) (m := s.st.ts.length - 0) ⟨0, [s.st.ts.length], A13, c13, Nat.zero_le _, by rw [qfm]; decide, by rw [qbl, List.append_nil], rfl, hc13, rfl, HF.sub (by kernel_rfl), HM.picks [0, 1, 2] (by decide) rfl⟩ ?_
 clear HF HM; rintro mS a w_ ⟨k, q, Ao, co, hk, hp, hq, hql, hco, rfl, HF, HM⟩
 refine wp_seq (qa ?_)
 refine fp HF 1 0 [(19, .bool (decide ((k : Int) < (s.st.ts.length : Int))))] fun a HF => ?_
 refine qb rfl (wp_seq ?_)
 rcases HF.tf 19 rfl with ⟨hb19, HF⟩ | ⟨hb19, HF⟩
 ·
  have hd19 := of_decide_eq_true hb19
  have hk19 : k < s.st.ts.length := by omega
  obtain ⟨t, ht⟩ : ∃ z, (s.st.ts.getD k Tk.zero) = z := ⟨_, rfl⟩
  have htid := tk_id (hsh.tk k hk19)
  rw [ht] at htid
  have hto := hok.ts _ (q5 Tk.zero hk19)
  replace hto : Tk.Ok t := by rw [← ht]; exact hto
  have htr := hto.r
  refine qd HF rfl (wp_skip (wp_seq (wp_block (wp_seq (qa ?_)))))
  obtain ⟨gq1, oq1, hq1, _⟩ := Rd.qp hx.t (Nat.lt_of_le_of_lt (Nat.zero_le _) (show k < s.st.ts.length from by omega)) (by decide)
  have hrq1 := hx.t; rw [hq1] at hrq1
  replace HF := HF.as (t := 16) (u := .slice (some ⟨gq1, oq1, none⟩) s.st.ts.length s.st.tc) rfl (by rw [hq1])
  refine fy HF HM 0 rfl rfl rfl (v := vP gq1 (oq1 + k * 8)) (Yl.ix gq1 oq1 k 8 rfl rfl rfl) fun a HF => ?_
  refine fy HF HM 1 rfl rfl rfl (v := .agg ((s.st.ts.getD k Tk.zero).cells)) (Yl.qr rfl rfl si_tk rfl (fun _ h => (h.old hrq1).q6 zf ((getD_at Tk.zero hk19)))) fun a HF => ?_
  replace HF := HF.sp 21 (.agg t.cells) rfl (by rw [ht])
  refine fo HF 2 rfl rfl ?_
  refine qs HF HM (cs := #[vI 0, vI 0, vI 0, vI 0, vQ 0, .bool false, vQ 0, vW 0]) rfl (by kernel_rfl) rfl (by decide) ?_
  clear HF HM; intro a w6 g6 HF HM
  refine fo HF 3 rfl rfl ?_
  refine e_sa HF HM 0 rfl rfl rfl rfl rfl si_tk rfl rfl (qgg t) ?_
  clear HM; intro w5_3 HM
  refine qb rfl (wp_seq (qa ?_))
  refine fp HF 1 0 [(7, vQ 0)] fun a HF => ?_
  refine qb rfl (wp_seq (wp_seq (qa ?_)))
  refine fp HF 1 0 [(22, vP g6 5)] fun a HF => ?_
  refine fy HF HM 1 rfl rfl rfl (v := .bool t.ready) (Yl.qf rfl rfl (by kernel_rfl) (fun _ h => h.cell (i := 0) rfl (rfl))) fun a HF => ?_
  refine qb rfl ?_
  rcases HF.tf 23 rfl with ⟨hb23, HF⟩ | ⟨hb23, HF⟩
  ·
   refine qd HF rfl (qa ?_)
   refine fp HF 1 0 [(7, vQ 1)] fun a HF => ?_
   refine qb rfl (wp_seq (qa ?_))
   refine fp HF 2 0 [(25, vP g6 0), (24, .slice Ao q.length co)] fun a HF => ?_
   refine fy HF HM 2 rfl rfl rfl (v := vI t.id) (Yl.qf rfl rfl (by kernel_rfl) (fun _ h => h.cell (i := 0) rfl (rfl))) fun a HF => ?_
   refine fp HF 2 3 [(28, vI (IntKind.i64.wrap (t.id - (qn s.st.ts k))))] fun a HF => ?_
   replace HF := HF.sp 28 (vI (t.id - qn s.st.ts k)) rfl (qin ⟨by omega, by omega⟩)
   refine fp HF 1 5 [(29, vP g6 1)] fun a HF => ?_
   refine fy HF HM 6 rfl rfl rfl (v := vI t.group) (Yl.qf rfl rfl (by kernel_rfl) (fun _ h => h.cell (i := 0) rfl (rfl))) fun a HF => ?_
   refine fp HF 1 7 [(31, vP g6 2)] fun a HF => ?_
   refine fy HF HM 8 rfl rfl rfl (v := vI t.weight) (Yl.qf rfl rfl (by kernel_rfl) (fun _ h => h.cell (i := 0) rfl (rfl))) fun a HF => ?_
   refine fp HF 1 9 [(33, vP g6 3)] fun a HF => ?_
   refine fy HF HM 10 rfl rfl rfl (v := vI t.cpu) (Yl.qf rfl rfl (by kernel_rfl) (fun _ h => h.cell (i := 0) rfl (rfl))) fun a HF => ?_
   refine fo HF 11 rfl rfl ?_
   refine qt HF HM (vs := [(0, vI (t.id - qn s.st.ts k)), (1, vI t.group), (2, vI t.weight), (3, vI t.cpu)]) (cs := #[vI (t.id - qn s.st.ts k), vI t.group, vI t.weight, vI t.cpu]) rfl qa9 (by decide) rfl (by kernel_rfl) rfl (by decide) ?_
   clear HF HM; intro a w35 g35 HF HM
   refine fo HF 12 rfl rfl ?_
   refine e_cl HF [vS g35 4 4] rfl rfl (qbt (some ⟨g35, 0, none⟩) 4 4 [t.id - qn s.st.ts k, t.group, t.weight, t.cpu] [toU (t.id - qn s.st.ts k), toU t.group, toU t.weight, toU t.cpu] _ rfl (HM.rdBlk (i := 0) (n := 4) (size := 1) rfl rfl) (by decide) rfl) ?_
   rintro _ w36 ⟨⟨A36, c36, rfl, ho, hc36⟩, hbw⟩
   refine ⟨_, rfl, ?_⟩
   replace HM := HM.callRow hbw ho
   clear HF; intro a HF
   have hrl36 : [toU (t.id - qn s.st.ts k), toU t.group, toU t.weight, toU t.cpu].length = 4 := rfl
   refine fo HF 13 rfl rfl ?_
   refine qw HF HM (i := 3) rfl za rfl rfl rfl (news := ([toU (t.id - qn s.st.ts k), toU t.group, toU t.weight, toU t.cpu].map U64)) (HM.rd (i := 0) rfl) (zn _) (by omega) (by omega) rfl (by decide) ?_
   clear HF HM; intro a w37 A37 c37 HF HM hc37
   refine fp HF 1 14 [(3, .slice A37 (q.length + ([toU (t.id - qn s.st.ts k), toU t.group, toU t.weight, toU t.cpu].length)) c37)] fun a HF => ?_
   refine qb rfl ?_
   have hnA37 : q.length + ([toU (t.id - qn s.st.ts k), toU t.group, toU t.weight, toU t.cpu].length) = (q ++ [toU (t.id - qn s.st.ts k), toU t.group, toU t.weight, toU t.cpu]).length := zd rfl
   replace HM := HM.reRow (i := 3) (ys := (q ++ [toU (t.id - qn s.st.ts k), toU t.group, toU t.weight, toU t.cpu]).map U64) rfl hnA37 (List.map_append.symm)
   rw [hnA37] at hc37
   replace HF := HF.as (t := 3) (u := .slice A37 ((q ++ [toU (t.id - qn s.st.ts k), toU t.group, toU t.weight, toU t.cpu]).length) c37) rfl (by rw [hnA37])
   replace HF := HF.as (t := 37) (u := .slice A37 ((q ++ [toU (t.id - qn s.st.ts k), toU t.group, toU t.weight, toU t.cpu]).length) c37) rfl (by rw [hnA37])
   refine wp_seq (qa ?_)
   refine fp HF 2 0 [(39, vP g6 4), (38, .slice A37 ((q ++ [toU (t.id - qn s.st.ts k), toU t.group, toU t.weight, toU t.cpu]).length) c37)] fun a HF => ?_
   refine fy HF HM 2 rfl rfl rfl (v := vQ t.mask) (Yl.qf rfl rfl (by kernel_rfl) (fun _ h => h.cell (i := 2) rfl (rfl))) fun a HF => ?_
   refine fp HF 2 3 [(42, vP g6 6), (41, vQ 1)] fun a HF => ?_
   refine fy HF HM 5 rfl rfl rfl (v := vQ t.v) (Yl.qf rfl rfl (by kernel_rfl) (fun _ h => h.cell (i := 2) rfl (rfl))) fun a HF => ?_
   refine fp HF 1 6 [(44, vP g6 7)] fun a HF => ?_
   refine fy HF HM 7 rfl rfl rfl (v := vW t.r) (Yl.qf rfl rfl (by kernel_rfl) (fun _ h => h.cell (i := 2) rfl (rfl))) fun a HF => ?_
   refine fp HF 1 8 [(46, vQ (IntKind.u64.wrap (t.r : Int)))] fun a HF => ?_
   replace HF := HF.sp 46 (vQ t.r) rfl (qah rfl (by omega))
   refine fo HF 9 rfl rfl ?_
   refine qt HF HM (vs := [(0, vQ t.mask), (1, vQ 1), (2, vQ t.v), (3, vQ t.r)]) (cs := #[vQ t.mask, vQ 1, vQ t.v, vQ t.r]) rfl za (by decide) rfl (by kernel_rfl) rfl (by decide) ?_
   clear HF HM; intro a w47 g47 HF HM
   refine fo HF 10 rfl rfl ?_
   refine qw HF HM (i := 4) rfl za rfl rfl rfl (news := ([t.mask, 1, t.v, t.r].map U64)) (HM.rdBlk (i := 0) (n := 4) (size := 1) rfl rfl) (zn _) (by omega) (by omega) rfl (by decide) ?_
   clear HF HM; intro a w48 A48 c48 HF HM hc48
   refine fp HF 1 11 [(3, .slice A48 (((q ++ [toU (t.id - qn s.st.ts k), toU t.group, toU t.weight, toU t.cpu]).length) + 4) c48)] fun a HF => ?_
   refine qb rfl ?_
   have hnA48 : ((q ++ [toU (t.id - qn s.st.ts k), toU t.group, toU t.weight, toU t.cpu]).length) + 4 = ((q ++ [toU (t.id - qn s.st.ts k), toU t.group, toU t.weight, toU t.cpu]) ++ [t.mask, 1, t.v, t.r]).length := zd rfl
   replace HM := HM.reRow (i := 4) (ys := ((q ++ [toU (t.id - qn s.st.ts k), toU t.group, toU t.weight, toU t.cpu]) ++ [t.mask, 1, t.v, t.r]).map U64) rfl hnA48 (List.map_append.symm)
   rw [hnA48] at hc48
   replace HF := HF.as (t := 3) (u := .slice A48 (((q ++ [toU (t.id - qn s.st.ts k), toU t.group, toU t.weight, toU t.cpu]) ++ [t.mask, 1, t.v, t.r]).length) c48) rfl (by rw [hnA48])
   replace HF := HF.as (t := 48) (u := .slice A48 (((q ++ [toU (t.id - qn s.st.ts k), toU t.group, toU t.weight, toU t.cpu]) ++ [t.mask, 1, t.v, t.r]).length) c48) rfl (by rw [hnA48])
   refine qa ?_
   refine fp HF 1 0 [(49, vP g6 0)] fun a HF => ?_
   refine fy HF HM 1 rfl rfl rfl (v := vI t.id) (Yl.qf rfl rfl (by kernel_rfl) (fun _ h => h.cell (i := 3) rfl (rfl))) fun a HF => ?_
   replace HF := HF.sp 50 (vI (qn s.st.ts (k + 1))) rfl (by rw [zy, ht])
   refine fp HF 1 2 [(4, vI (qn s.st.ts (k + 1)))] fun a HF => ?_
   refine qb rfl ?_
   replace HF := HF.to [(4, vI (qn s.st.ts (k + 1))), (48, .slice A48 (((q ++ [toU (t.id - qn s.st.ts k), toU t.group, toU t.weight, toU t.cpu]) ++ [t.mask, 1, t.v, t.r]).length) c48), (3, .slice A48 (((q ++ [toU (t.id - qn s.st.ts k), toU t.group, toU t.weight, toU t.cpu]) ++ [t.mask, 1, t.v, t.r]).length) c48), (37, .slice A37 ((q ++ [toU (t.id - qn s.st.ts k), toU t.group, toU t.weight, toU t.cpu]).length) c37), (7, vQ 1), (23, .bool true), (6, vP g6 0), (16, .slice (some ⟨gq1, oq1, none⟩) s.st.ts.length s.st.tc), (19, .bool true), (18, vI k), (17, vI s.st.ts.length), (13, .slice A13 ([s.st.ts.length].length) c13), (2, .slice none 0 0), (1, vP g1 0)]
   refine qa ?_
   refine fp HF 1 0 [(51, vI (IntKind.i64.wrap ((k : Int) + 1)))] fun a HF => ?_
   replace HF := HF.sp 51 (vI (k + 1 : Nat)) rfl (qi (by omega) (by omega))
   refine fp HF 1 1 [(18, vI (k + 1 : Nat))] fun a HF => ?_
   refine qb rfl ?_
   replace HF := HF.as (t := 16) (u := .slice s.st.tA s.st.ts.length s.st.tc) rfl (by rw [hq1])
   exact ⟨_, (by omega), k + 1, (q ++ [toU (t.id - qn s.st.ts k), toU t.group, toU t.weight, toU t.cpu] ++ [t.mask, 1, t.v, t.r]), A48, c48, by omega, by rw [zy, ht]; omega, by rw [hq, qv, ht, tkN_t hb23, List.append_assoc, List.append_assoc], by (simp only [List.length_append, List.length_cons, List.length_nil]; omega), hc48, rfl, HF.sub (by kernel_rfl), HM.picks [4, 5, 6] (by decide) rfl⟩
  refine qc HF rfl (wp_skip (wp_seq (qa ?_)))
  refine fp HF 2 0 [(25, vP g6 0), (24, .slice Ao q.length co)] fun a HF => ?_
  refine fy HF HM 2 rfl rfl rfl (v := vI t.id) (Yl.qf rfl rfl (by kernel_rfl) (fun _ h => h.cell (i := 0) rfl (rfl))) fun a HF => ?_
  refine fp HF 2 3 [(28, vI (IntKind.i64.wrap (t.id - (qn s.st.ts k))))] fun a HF => ?_
  replace HF := HF.sp 28 (vI (t.id - qn s.st.ts k)) rfl (qin ⟨by omega, by omega⟩)
  refine fp HF 1 5 [(29, vP g6 1)] fun a HF => ?_
  refine fy HF HM 6 rfl rfl rfl (v := vI t.group) (Yl.qf rfl rfl (by kernel_rfl) (fun _ h => h.cell (i := 0) rfl (rfl))) fun a HF => ?_
  refine fp HF 1 7 [(31, vP g6 2)] fun a HF => ?_
  refine fy HF HM 8 rfl rfl rfl (v := vI t.weight) (Yl.qf rfl rfl (by kernel_rfl) (fun _ h => h.cell (i := 0) rfl (rfl))) fun a HF => ?_
  refine fp HF 1 9 [(33, vP g6 3)] fun a HF => ?_
  refine fy HF HM 10 rfl rfl rfl (v := vI t.cpu) (Yl.qf rfl rfl (by kernel_rfl) (fun _ h => h.cell (i := 0) rfl (rfl))) fun a HF => ?_
  refine fo HF 11 rfl rfl ?_
  refine qt HF HM (vs := [(0, vI (t.id - qn s.st.ts k)), (1, vI t.group), (2, vI t.weight), (3, vI t.cpu)]) (cs := #[vI (t.id - qn s.st.ts k), vI t.group, vI t.weight, vI t.cpu]) rfl qa9 (by decide) rfl (by kernel_rfl) rfl (by decide) ?_
  clear HF HM; intro a w35 g35 HF HM
  refine fo HF 12 rfl rfl ?_
  refine e_cl HF [vS g35 4 4] rfl rfl (qbt (some ⟨g35, 0, none⟩) 4 4 [t.id - qn s.st.ts k, t.group, t.weight, t.cpu] [toU (t.id - qn s.st.ts k), toU t.group, toU t.weight, toU t.cpu] _ rfl (HM.rdBlk (i := 0) (n := 4) (size := 1) rfl rfl) (by decide) rfl) ?_
  rintro _ w36 ⟨⟨A36, c36, rfl, ho, hc36⟩, hbw⟩
  refine ⟨_, rfl, ?_⟩
  replace HM := HM.callRow hbw ho
  clear HF; intro a HF
  have hrl36 : [toU (t.id - qn s.st.ts k), toU t.group, toU t.weight, toU t.cpu].length = 4 := rfl
  refine fo HF 13 rfl rfl ?_
  refine qw HF HM (i := 3) rfl za rfl rfl rfl (news := ([toU (t.id - qn s.st.ts k), toU t.group, toU t.weight, toU t.cpu].map U64)) (HM.rd (i := 0) rfl) (zn _) (by omega) (by omega) rfl (by decide) ?_
  clear HF HM; intro a w37 A37 c37 HF HM hc37
  refine fp HF 1 14 [(3, .slice A37 (q.length + ([toU (t.id - qn s.st.ts k), toU t.group, toU t.weight, toU t.cpu].length)) c37)] fun a HF => ?_
  refine qb rfl ?_
  have hnA37 : q.length + ([toU (t.id - qn s.st.ts k), toU t.group, toU t.weight, toU t.cpu].length) = (q ++ [toU (t.id - qn s.st.ts k), toU t.group, toU t.weight, toU t.cpu]).length := zd rfl
  replace HM := HM.reRow (i := 3) (ys := (q ++ [toU (t.id - qn s.st.ts k), toU t.group, toU t.weight, toU t.cpu]).map U64) rfl hnA37 (List.map_append.symm)
  rw [hnA37] at hc37
  replace HF := HF.as (t := 3) (u := .slice A37 ((q ++ [toU (t.id - qn s.st.ts k), toU t.group, toU t.weight, toU t.cpu]).length) c37) rfl (by rw [hnA37])
  replace HF := HF.as (t := 37) (u := .slice A37 ((q ++ [toU (t.id - qn s.st.ts k), toU t.group, toU t.weight, toU t.cpu]).length) c37) rfl (by rw [hnA37])
  refine wp_seq (qa ?_)
  refine fp HF 2 0 [(39, vP g6 4), (38, .slice A37 ((q ++ [toU (t.id - qn s.st.ts k), toU t.group, toU t.weight, toU t.cpu]).length) c37)] fun a HF => ?_
  refine fy HF HM 2 rfl rfl rfl (v := vQ t.mask) (Yl.qf rfl rfl (by kernel_rfl) (fun _ h => h.cell (i := 2) rfl (rfl))) fun a HF => ?_
  refine fp HF 2 3 [(42, vP g6 6), (41, vQ 0)] fun a HF => ?_
  refine fy HF HM 5 rfl rfl rfl (v := vQ t.v) (Yl.qf rfl rfl (by kernel_rfl) (fun _ h => h.cell (i := 2) rfl (rfl))) fun a HF => ?_
  refine fp HF 1 6 [(44, vP g6 7)] fun a HF => ?_
  refine fy HF HM 7 rfl rfl rfl (v := vW t.r) (Yl.qf rfl rfl (by kernel_rfl) (fun _ h => h.cell (i := 2) rfl (rfl))) fun a HF => ?_
  refine fp HF 1 8 [(46, vQ (IntKind.u64.wrap (t.r : Int)))] fun a HF => ?_
  replace HF := HF.sp 46 (vQ t.r) rfl (qah rfl (by omega))
  refine fo HF 9 rfl rfl ?_
  refine qt HF HM (vs := [(0, vQ t.mask), (1, vQ 0), (2, vQ t.v), (3, vQ t.r)]) (cs := #[vQ t.mask, vQ 0, vQ t.v, vQ t.r]) rfl za (by decide) rfl (by kernel_rfl) rfl (by decide) ?_
  clear HF HM; intro a w47 g47 HF HM
  refine fo HF 10 rfl rfl ?_
  refine qw HF HM (i := 4) rfl za rfl rfl rfl (news := ([t.mask, 0, t.v, t.r].map U64)) (HM.rdBlk (i := 0) (n := 4) (size := 1) rfl rfl) (zn _) (by omega) (by omega) rfl (by decide) ?_
  clear HF HM; intro a w48 A48 c48 HF HM hc48
  refine fp HF 1 11 [(3, .slice A48 (((q ++ [toU (t.id - qn s.st.ts k), toU t.group, toU t.weight, toU t.cpu]).length) + 4) c48)] fun a HF => ?_
  refine qb rfl ?_
  have hnA48 : ((q ++ [toU (t.id - qn s.st.ts k), toU t.group, toU t.weight, toU t.cpu]).length) + 4 = ((q ++ [toU (t.id - qn s.st.ts k), toU t.group, toU t.weight, toU t.cpu]) ++ [t.mask, 0, t.v, t.r]).length := zd rfl
  replace HM := HM.reRow (i := 4) (ys := ((q ++ [toU (t.id - qn s.st.ts k), toU t.group, toU t.weight, toU t.cpu]) ++ [t.mask, 0, t.v, t.r]).map U64) rfl hnA48 (List.map_append.symm)
  rw [hnA48] at hc48
  replace HF := HF.as (t := 3) (u := .slice A48 (((q ++ [toU (t.id - qn s.st.ts k), toU t.group, toU t.weight, toU t.cpu]) ++ [t.mask, 0, t.v, t.r]).length) c48) rfl (by rw [hnA48])
  replace HF := HF.as (t := 48) (u := .slice A48 (((q ++ [toU (t.id - qn s.st.ts k), toU t.group, toU t.weight, toU t.cpu]) ++ [t.mask, 0, t.v, t.r]).length) c48) rfl (by rw [hnA48])
  refine qa ?_
  refine fp HF 1 0 [(49, vP g6 0)] fun a HF => ?_
  refine fy HF HM 1 rfl rfl rfl (v := vI t.id) (Yl.qf rfl rfl (by kernel_rfl) (fun _ h => h.cell (i := 3) rfl (rfl))) fun a HF => ?_
  replace HF := HF.sp 50 (vI (qn s.st.ts (k + 1))) rfl (by rw [zy, ht])
  refine fp HF 1 2 [(4, vI (qn s.st.ts (k + 1)))] fun a HF => ?_
  refine qb rfl ?_
  replace HF := HF.to [(4, vI (qn s.st.ts (k + 1))), (48, .slice A48 (((q ++ [toU (t.id - qn s.st.ts k), toU t.group, toU t.weight, toU t.cpu]) ++ [t.mask, 0, t.v, t.r]).length) c48), (3, .slice A48 (((q ++ [toU (t.id - qn s.st.ts k), toU t.group, toU t.weight, toU t.cpu]) ++ [t.mask, 0, t.v, t.r]).length) c48), (37, .slice A37 ((q ++ [toU (t.id - qn s.st.ts k), toU t.group, toU t.weight, toU t.cpu]).length) c37), (23, .bool false), (7, vQ 0), (6, vP g6 0), (16, .slice (some ⟨gq1, oq1, none⟩) s.st.ts.length s.st.tc), (19, .bool true), (18, vI k), (17, vI s.st.ts.length), (13, .slice A13 ([s.st.ts.length].length) c13), (2, .slice none 0 0), (1, vP g1 0)]
  refine qa ?_
  refine fp HF 1 0 [(51, vI (IntKind.i64.wrap ((k : Int) + 1)))] fun a HF => ?_
  replace HF := HF.sp 51 (vI (k + 1 : Nat)) rfl (qi (by omega) (by omega))
  refine fp HF 1 1 [(18, vI (k + 1 : Nat))] fun a HF => ?_
  refine qb rfl ?_
  replace HF := HF.as (t := 16) (u := .slice s.st.tA s.st.ts.length s.st.tc) rfl (by rw [hq1])
  exact ⟨_, (by omega), k + 1, (q ++ [toU (t.id - qn s.st.ts k), toU t.group, toU t.weight, toU t.cpu] ++ [t.mask, 0, t.v, t.r]), A48, c48, by omega, by rw [zy, ht]; omega, by rw [hq, qv, ht, tkN_f hb23, List.append_assoc, List.append_assoc], by (simp only [List.length_append, List.length_cons, List.length_nil]; omega), hc48, rfl, HF.sub (by kernel_rfl), HM.picks [4, 5, 6] (by decide) rfl⟩
 have hd19 := of_decide_eq_false hb19
 refine qc HF rfl (wp_exit (wp_seq (qa ?_)))
 refine fp HF 2 0 [(2, .slice Ao q.length co)] fun a HF => ?_
 refine qb rfl (wp_ret ?_)
 exact ret1 rfl HF (.tmp HF rfl) (ze (by rw [hq, show k = s.st.ts.length by omega]; try rfl) (HM.own (i := 0) rfl) hco HM.below)
theorem qnc (s : Snm) (hok : s.st.sta.Ok) (hf : StFew s.st) (w : World) (hx : StRd w s.st) (hc : StCap s.st) (hsh : ShAt s.st) :
    Calls Tryz.prog 87 #[.agg s.cells] w (qa7 w (secN s 6)) := by
 have hrl := hf.s
 obtain ⟨hc1, hc2, _, _⟩ := qcq hsh.cfg
 refine qg (vs := [.agg s.cells]) Tryz.func87 rfl rfl (by kernel_rfl) (σ0 := [(0, .agg s.cells)]) rfl ?_
 intro a HF
 have HM := Mem.start w
 refine wp_seq (qa ?_)
 refine fo HF 0 rfl rfl ?_
 refine e_box HF HM (cs := s.cells) rfl rfl rfl rfl (by decide) ?_
 clear HF HM; intro a w1 g1 HF HM
 refine fp HF 1 1 [(2, .slice none 0 0)] fun a HF => ?_
 refine qb rfl (wp_seq (qa ?_))
 refine fp HF 1 0 [(3, .slice none 0 0)] fun a HF => ?_
 refine qb rfl ?_
 replace HM := HM.nil 22 1
 refine wp_seq (wp_seq (qa ?_))
 refine fp HF 2 0 [(9, vP g1 7)] fun a HF => ?_
 refine fy HF HM 2 rfl rfl rfl (v := .slice s.st.sA s.st.rs.length s.st.sc) (Yl.qf rfl rfl (by kernel_rfl) (fun _ h => h.cell (i := 1) rfl (rfl))) fun a HF => ?_
 refine fy HF HM 3 rfl rfl rfl (Yl.len rfl rfl (by kernel_rfl)) fun a HF => ?_
 refine fp HF 1 4 [(12, vI 0)] fun a HF => ?_
 refine qb rfl (wp_block ?_)
 refine qo (fun mS aS wS => ∃ (g : Nat) (q : List Nat) (Ao : Option Addr) (co : Nat), (g ≤ s.st.rs.length) ∧ (q = upF g fun i => rwN i (s.st.rs.getD i Rw.zero).l) ∧ (q.length ≤ 192 * g) ∧ (q.length ≤ co) ∧ mS = s.st.rs.length - g ∧ Fr aS 41 [] [(12, vI g), (11, vI s.st.rs.length), (10, .slice s.st.sA s.st.rs.length s.st.sc), (3, .slice Ao q.length co), (2, .slice none 0 0)] ∧ Mem w wS [.row (.slice Ao q.length co) q.length (q.map U64) 22 1, .blk g1 s.cells 32]) (m := s.st.rs.length - 0) ⟨0, [], none, 0, Nat.zero_le _, rfl, Nat.le_refl _, Nat.le_refl _, rfl, HF.sub (by kernel_rfl), HM.picks [0, 1] (by decide) rfl⟩ ?_
 clear HF HM; rintro mS a w_ ⟨g, q, Ao, co, hg, hq, hql, hco, rfl, HF, HM⟩
 refine wp_seq (qa ?_)
 refine fp HF 1 0 [(13, .bool (decide ((g : Int) < (s.st.rs.length : Int))))] fun a HF => ?_
 refine qb rfl (wp_seq ?_)
 rcases HF.tf 13 rfl with ⟨hb13, HF⟩ | ⟨hb13, HF⟩
 ·
  have hd13 := of_decide_eq_true hb13
  have hg13 : g < s.st.rs.length := by omega
  obtain ⟨y, hy⟩ : ∃ z, s.st.rs.getD g Rw.zero = z := ⟨_, rfl⟩
  have hyr : Rd w w.heap.size 3 y.A y.l.length (y.l.flatMap spL) := by rw [← hy]; exact hx.row hg13
  have hyl : (y.l.length : Int) = s.st.cpus := by rw [← hy]; exact (qeq hg13 (hsh.row g hg13)).1
  have hyo : ∀ z ∈ y.l, z.Ok := by rw [← hy, ← rs_at hg13]; exact hok.sp _ (q5 [] (by rw [qat]; exact hg13))
  refine qd HF rfl (wp_skip (wp_seq (wp_block (wp_seq (qa ?_)))))
  refine fp HF 1 0 [(14, vI g)] fun a HF => ?_
  obtain ⟨gq1, oq1, hq1, _⟩ := Rd.qp hx.s (Nat.lt_of_le_of_lt (Nat.zero_le _) (show g < s.st.rs.length from by omega)) (by decide)
  have hrq1 := hx.s; rw [hq1] at hrq1
  replace HF := HF.as (t := 10) (u := .slice (some ⟨gq1, oq1, none⟩) s.st.rs.length s.st.sc) rfl (by rw [hq1])
  refine fy HF HM 1 rfl rfl rfl (v := vP gq1 (oq1 + g * 1)) (Yl.ix gq1 oq1 g 1 rfl rfl rfl) fun a HF => ?_
  refine fy HF HM 2 rfl rfl rfl (v := .slice ((s.st.rs.getD g Rw.zero).A) ((s.st.rs.getD g Rw.zero).l.length) ((s.st.rs.getD g Rw.zero).c)) (Yl.qf rfl rfl (by kernel_rfl) (fun _ h => (h.old hrq1).q7 (k := g) (qz (F := Rw.val) (k := g) (x := (s.st.rs.getD g Rw.zero)) ((getD_at Rw.zero hg13))))) fun a HF => ?_
  replace HF := HF.sp 16 (.slice y.A y.l.length y.c) rfl (by rw [hy])
  refine fp HF 2 3 [(5, .slice y.A y.l.length y.c), (4, vI g)] fun a HF => ?_
  refine qb rfl (wp_seq (qa ?_))
  refine fp HF 1 0 [(17, .slice y.A y.l.length y.c)] fun a HF => ?_
  refine fy HF HM 1 rfl rfl rfl (Yl.len rfl rfl (by kernel_rfl)) fun a HF => ?_
  refine fp HF 1 2 [(19, vI 0)] fun a HF => ?_
  refine qb rfl (wp_block ?_)
  refine qo (fun mS aS wS => ∃ (c : Nat) (q : List Nat) (Ao : Option Addr) (co : Nat), (c ≤ y.l.length) ∧ (q = (upF g fun i => rwN i (s.st.rs.getD i Rw.zero).l) ++ upF c fun i => spN g (y.l.getD i Sp.zero)) ∧ (q.length ≤ 192 * g + 3 * c) ∧ (q.length ≤ co) ∧ mS = y.l.length - c ∧ Fr aS 41 [] [(19, vI c), (18, vI y.l.length), (17, .slice y.A y.l.length y.c), (5, .slice y.A y.l.length y.c), (4, vI g), (10, .slice (some ⟨gq1, oq1, none⟩) s.st.rs.length s.st.sc), (13, .bool true), (12, vI g), (11, vI s.st.rs.length), (3, .slice Ao q.length co), (2, .slice none 0 0)] ∧ Mem w wS [.row (.slice Ao q.length co) q.length (q.map U64) 22 1, .blk g1 s.cells 32]) (m := y.l.length - 0) ⟨0, q, Ao, co, Nat.zero_le _, by rw [hq, qbl, List.append_nil], by omega, hco, rfl, HF.sub (by kernel_rfl), HM.picks [0, 1] (by decide) rfl⟩ ?_
  clear HF HM; rintro mS a w_ ⟨c, q, Ao, co, hc, hq, hql, hco, rfl, HF, HM⟩
  refine wp_seq (qa ?_)
  refine fp HF 1 0 [(20, .bool (decide ((c : Int) < (y.l.length : Int))))] fun a HF => ?_
  refine qb rfl (wp_seq ?_)
  rcases HF.tf 20 rfl with ⟨hb20, HF⟩ | ⟨hb20, HF⟩
  ·
   have hd20 := of_decide_eq_true hb20
   have hc20 : c < y.l.length := by omega
   obtain ⟨z, hz⟩ : ∃ q, (y.l.getD c Sp.zero) = q := ⟨_, rfl⟩
   have hzo := hyo _ (q5 Sp.zero hc20)
   rw [hz] at hzo
   have hzr := hzo.r
   refine qd HF rfl (wp_skip (wp_seq (wp_block (wp_seq (qa ?_)))))
   obtain ⟨gq2, oq2, hq2, _⟩ := Rd.qp hyr (Nat.lt_of_le_of_lt (Nat.zero_le _) (show c < y.l.length from by omega)) (by decide)
   have hrq2 := hyr; rw [hq2] at hrq2
   replace HF := HF.as (t := 17) (u := .slice (some ⟨gq2, oq2, none⟩) y.l.length y.c) rfl (by rw [hq2])
   refine fy HF HM 0 rfl rfl rfl (v := vP gq2 (oq2 + c * 3)) (Yl.ix gq2 oq2 c 3 rfl rfl rfl) fun a HF => ?_
   refine fy HF HM 1 rfl rfl rfl (v := .agg ((y.l.getD c Sp.zero).cells)) (Yl.qr rfl rfl si_sp rfl (fun _ h => (h.old hrq2).q6 zr ((getD_at Sp.zero hc20)))) fun a HF => ?_
   replace HF := HF.sp 22 (.agg z.cells) rfl (by rw [hz])
   refine fo HF 2 rfl rfl ?_
   refine qs HF HM (cs := #[vQ 0, vW 0, vQ 0]) rfl (by kernel_rfl) rfl (by decide) ?_
   clear HF HM; intro a w7 g7 HF HM
   refine fo HF 3 rfl rfl ?_
   refine e_sa HF HM 0 rfl rfl rfl rfl rfl si_sp rfl rfl (qou z) ?_
   clear HM; intro w7_3 HM
   refine qb rfl (wp_seq (wp_seq (qa ?_)))
   refine fp HF 2 0 [(24, .bool (decide ((g : Int) > (0 : Int))))] fun a HF => ?_
   refine qb rfl ?_
   rcases HF.tf 24 rfl with ⟨hb24, HF⟩ | ⟨hb24, HF⟩
   ·
    have hd24 := of_decide_eq_true hb24
    refine qd HF rfl (qa ?_)
    refine fp HF 2 0 [(26, vP g7 0), (25, .slice Ao q.length co)] fun a HF => ?_
    refine fy HF HM 2 rfl rfl rfl (v := vQ z.v) (Yl.qf rfl rfl (by kernel_rfl) (fun _ h => h.cell (i := 0) rfl (rfl))) fun a HF => ?_
    refine fp HF 1 3 [(28, vP g7 1)] fun a HF => ?_
    refine fy HF HM 4 rfl rfl rfl (v := vW z.r) (Yl.qf rfl rfl (by kernel_rfl) (fun _ h => h.cell (i := 0) rfl (rfl))) fun a HF => ?_
    refine fp HF 1 5 [(30, vQ (IntKind.u64.wrap (z.r : Int)))] fun a HF => ?_
    replace HF := HF.sp 30 (vQ z.r) rfl (qah rfl (by omega))
    refine fo HF 6 rfl rfl ?_
    refine qt HF HM (vs := [(0, vQ z.v), (1, vQ z.r)]) (cs := #[vQ z.v, vQ z.r]) rfl za (by decide) rfl (by kernel_rfl) rfl (by decide) ?_
    clear HF HM; intro a w31 g31 HF HM
    refine fo HF 7 rfl rfl ?_
    refine qw HF HM (i := 2) rfl za rfl rfl rfl (news := ([z.v, z.r].map U64)) (HM.rdBlk (i := 0) (n := 2) (size := 1) rfl rfl) (zn _) (by omega) (by omega) rfl (by decide) ?_
    clear HF HM; intro a w32 A32 c32 HF HM hc32
    refine fp HF 1 8 [(3, .slice A32 (q.length + 2) c32)] fun a HF => ?_
    refine qb rfl ?_
    have hnA32 : q.length + 2 = (q ++ [z.v, z.r]).length := zd rfl
    replace HM := HM.reRow (i := 2) (ys := (q ++ [z.v, z.r]).map U64) rfl hnA32 (List.map_append.symm)
    rw [hnA32] at hc32
    replace HF := HF.as (t := 3) (u := .slice A32 ((q ++ [z.v, z.r]).length) c32) rfl (by rw [hnA32])
    replace HF := HF.as (t := 32) (u := .slice A32 ((q ++ [z.v, z.r]).length) c32) rfl (by rw [hnA32])
    refine qa ?_
    refine fp HF 2 0 [(34, vP g7 2), (33, .slice A32 ((q ++ [z.v, z.r]).length) c32)] fun a HF => ?_
    refine fy HF HM 2 rfl rfl rfl (v := vQ z.floor) (Yl.qf rfl rfl (by kernel_rfl) (fun _ h => h.cell (i := 1) rfl (rfl))) fun a HF => ?_
    refine fo HF 3 rfl rfl ?_
    refine qt HF HM (vs := [(0, vQ z.floor)]) (cs := #[vQ z.floor]) rfl za (by decide) rfl (by kernel_rfl) rfl (by decide) ?_
    clear HF HM; intro a w36 g36 HF HM
    refine fo HF 4 rfl rfl ?_
    refine qw HF HM (i := 3) rfl za rfl rfl rfl (news := ([z.floor].map U64)) (HM.rdBlk (i := 0) (n := 1) (size := 1) rfl rfl) (zn _) (by omega) (by omega) rfl (by decide) ?_
    clear HF HM; intro a w37 A37 c37 HF HM hc37
    refine fp HF 1 5 [(3, .slice A37 (((q ++ [z.v, z.r]).length) + 1) c37)] fun a HF => ?_
    refine qb rfl ?_
    have hnA37 : ((q ++ [z.v, z.r]).length) + 1 = ((q ++ [z.v, z.r]) ++ [z.floor]).length := zd rfl
    replace HM := HM.reRow (i := 3) (ys := ((q ++ [z.v, z.r]) ++ [z.floor]).map U64) rfl hnA37 (List.map_append.symm)
    rw [hnA37] at hc37
    replace HF := HF.as (t := 3) (u := .slice A37 (((q ++ [z.v, z.r]) ++ [z.floor]).length) c37) rfl (by rw [hnA37])
    replace HF := HF.as (t := 37) (u := .slice A37 (((q ++ [z.v, z.r]) ++ [z.floor]).length) c37) rfl (by rw [hnA37])
    refine qa ?_
    refine fp HF 1 0 [(38, vI (IntKind.i64.wrap ((c : Int) + 1)))] fun a HF => ?_
    replace HF := HF.sp 38 (vI (c + 1 : Nat)) rfl (qi (by omega) (by omega))
    refine fp HF 1 1 [(19, vI (c + 1 : Nat))] fun a HF => ?_
    refine qb rfl ?_
    replace HF := HF.as (t := 17) (u := .slice y.A y.l.length y.c) rfl (by rw [hq2])
    exact ⟨_, (by omega), c + 1, ((q ++ [z.v, z.r]) ++ [z.floor]), A37, c37, by omega, by rw [hq, qv, hz, qpi (by omega)]; simp only [List.append_assoc], by (simp only [List.length_append, List.length_cons, List.length_nil]; omega), hc37, rfl, HF.sub (by kernel_rfl), HM.picks [3, 4] (by decide) rfl⟩
   have hd24 := of_decide_eq_false hb24
   refine qc HF rfl (wp_skip (qa ?_))
   refine fp HF 2 0 [(34, vP g7 2), (33, .slice Ao q.length co)] fun a HF => ?_
   refine fy HF HM 2 rfl rfl rfl (v := vQ z.floor) (Yl.qf rfl rfl (by kernel_rfl) (fun _ h => h.cell (i := 0) rfl (rfl))) fun a HF => ?_
   refine fo HF 3 rfl rfl ?_
   refine qt HF HM (vs := [(0, vQ z.floor)]) (cs := #[vQ z.floor]) rfl za (by decide) rfl (by kernel_rfl) rfl (by decide) ?_
   clear HF HM; intro a w36 g36 HF HM
   refine fo HF 4 rfl rfl ?_
   refine qw HF HM (i := 2) rfl za rfl rfl rfl (news := ([z.floor].map U64)) (HM.rdBlk (i := 0) (n := 1) (size := 1) rfl rfl) (zn _) (by omega) (by omega) rfl (by decide) ?_
   clear HF HM; intro a w37 A37 c37 HF HM hc37
   refine fp HF 1 5 [(3, .slice A37 (q.length + 1) c37)] fun a HF => ?_
   refine qb rfl ?_
   have hnA37 : q.length + 1 = (q ++ [z.floor]).length := zd rfl
   replace HM := HM.reRow (i := 2) (ys := (q ++ [z.floor]).map U64) rfl hnA37 (List.map_append.symm)
   rw [hnA37] at hc37
   replace HF := HF.as (t := 3) (u := .slice A37 ((q ++ [z.floor]).length) c37) rfl (by rw [hnA37])
   replace HF := HF.as (t := 37) (u := .slice A37 ((q ++ [z.floor]).length) c37) rfl (by rw [hnA37])
   refine qa ?_
   refine fp HF 1 0 [(38, vI (IntKind.i64.wrap ((c : Int) + 1)))] fun a HF => ?_
   replace HF := HF.sp 38 (vI (c + 1 : Nat)) rfl (qi (by omega) (by omega))
   refine fp HF 1 1 [(19, vI (c + 1 : Nat))] fun a HF => ?_
   refine qb rfl ?_
   replace HF := HF.as (t := 17) (u := .slice y.A y.l.length y.c) rfl (by rw [hq2])
   exact ⟨_, (by omega), c + 1, (q ++ [z.floor]), A37, c37, by omega, by rw [hq, qv, hz, qlr (by omega), List.append_assoc], by (simp only [List.length_append, List.length_cons, List.length_nil]; omega), hc37, rfl, HF.sub (by kernel_rfl), HM.picks [2, 3] (by decide) rfl⟩
  have hd20 := of_decide_eq_false hb20
  refine qc HF rfl (wp_exit (qa ?_))
  refine fp HF 1 0 [(39, vI (IntKind.i64.wrap ((g : Int) + 1)))] fun a HF => ?_
  replace HF := HF.sp 39 (vI (g + 1 : Nat)) rfl (qi (by omega) (by omega))
  refine fp HF 1 1 [(12, vI (g + 1 : Nat))] fun a HF => ?_
  refine qb rfl ?_
  replace HF := HF.as (t := 10) (u := .slice s.st.sA s.st.rs.length s.st.sc) rfl (by rw [hq1])
  exact ⟨_, (by omega), g + 1, q, Ao, co, by omega, by rw [hq, show c = y.l.length by omega, qv, hy]; rfl, by omega, hco, rfl, HF.sub (by kernel_rfl), HM.picks [0, 1] (by decide) rfl⟩
 have hd13 := of_decide_eq_false hb13
 refine qc HF rfl (wp_exit (wp_seq (qa ?_)))
 refine fp HF 2 0 [(2, .slice Ao q.length co)] fun a HF => ?_
 refine qb rfl (wp_ret ?_)
 exact ret1 rfl HF (.tmp HF rfl) (ze (by rw [hq, show g = s.st.rs.length by omega]; try rfl) (HM.own (i := 0) rfl) hco HM.below)
theorem qar : SI Tryz.prog 146 2 := ⟨by kernel_rfl, by kernel_rfl⟩
theorem qup : EI Tryz.prog 147 146 (.agg #[.string (ByteArray.mk #[]), .nilFunc]) 2 24 := ⟨by kernel_rfl, by kernel_rfl, rfl, by omega⟩
def q9 (s : Snm) : Array Value := #[.string (ByteArray.mk #[110, 101, 120, 116]), .func (.func 81) #[.agg s.cells] #[], .string (ByteArray.mk #[99, 111, 110, 102, 105, 103]), .func (.func 82) #[.agg s.cells] #[], .string (ByteArray.mk #[103, 114, 111, 117, 112, 115]), .func (.func 83) #[.agg s.cells] #[], .string (ByteArray.mk #[99, 108, 111, 99, 107, 115]), .func (.func 84) #[.agg s.cells] #[], .string (ByteArray.mk #[99, 117, 114, 114, 101, 110, 116]), .func (.func 85) #[.agg s.cells] #[], .string (ByteArray.mk #[116, 97, 115, 107, 115]), .func (.func 86) #[.agg s.cells] #[], .string (ByteArray.mk #[115, 112, 111, 116, 115]), .func (.func 87) #[.agg s.cells] #[]]
def qh1 (P : Program) (W : World) (lp : Nat) (s : Snm) (Inv : Nat → List Fact → Prop) : Prop :=
 ∀ (i : Nat) (F fr : List Fact) (w : World) (A : Option Addr) (c : Nat), Inv i F → i < 7 → (secN s i).length ≤ c → Mem W w (.row (.slice A (secN s i).length c) (secN s i).length ((secN s i).map U64) 22 1 :: (F ++ fr)) → YieldAt Fence.wide 0 P lp #[.string (qaj i), .slice A (secN s i).length c] w (qoy W fr (Inv (i + 1)))
theorem qjh (s : Snm) (w : World) :
    Calls Tryz.prog 52 #[.agg s.cells] w fun r w' => ∃ gv gp, r = .returned (.func (.func 88) #[] #[.pointer (some ⟨gv, 0, none⟩)]) ∧ Mem w w' [.blk gv #[.slice (some ⟨gp, 0, none⟩) 7 7] 147, .blk gp (q9 s) 146] := by
 refine qg (vs := [.agg s.cells]) Tryz.func52 rfl rfl (by kernel_rfl) (σ0 := [(0, .agg s.cells)]) rfl ?_
 intro a HF
 have HM := Mem.start w
 refine wp_seq (qa ?_)
 refine fo HF 0 rfl rfl ?_
 refine e_box HF HM (cs := s.cells) rfl rfl rfl rfl (by decide) ?_
 clear HF HM; intro a w1 g1 HF HM
 refine fp HF 1 1 [(2, .nilFunc)] fun a HF => ?_
 refine qb rfl (wp_seq (qa ?_))
 refine fy HF HM 0 rfl rfl rfl (v := .agg s.cells) (Yl.qr rfl rfl qx rfl (fun _ h => qe (h.blk (i := 0) rfl))) fun a HF => ?_
 refine fy HF HM 1 rfl rfl rfl (v := .func (.func 81) #[.agg s.cells] #[]) (Yl.makeFunc (fst := [.agg s.cells]) (caps := []) rfl rfl rfl) fun a HF => ?_
 refine fy HF HM 2 rfl rfl rfl (v := .agg #[.string (ByteArray.mk #[110, 101, 120, 116]), .func (.func 81) #[.agg s.cells] #[]]) (Yl.build (vs := [(0, .string (ByteArray.mk #[110, 101, 120, 116])), (1, .func (.func 81) #[.agg s.cells] #[])]) rfl (by kernel_rfl) (by kernel_rfl)) fun a HF => ?_
 refine fy HF HM 3 rfl rfl rfl (v := .agg s.cells) (Yl.qr rfl rfl qx rfl (fun _ h => qe (h.blk (i := 0) rfl))) fun a HF => ?_
 refine fy HF HM 4 rfl rfl rfl (v := .func (.func 82) #[.agg s.cells] #[]) (Yl.makeFunc (fst := [.agg s.cells]) (caps := []) rfl rfl rfl) fun a HF => ?_
 refine fy HF HM 5 rfl rfl rfl (v := .agg #[.string (ByteArray.mk #[99, 111, 110, 102, 105, 103]), .func (.func 82) #[.agg s.cells] #[]]) (Yl.build (vs := [(0, .string (ByteArray.mk #[99, 111, 110, 102, 105, 103])), (1, .func (.func 82) #[.agg s.cells] #[])]) rfl (by kernel_rfl) (by kernel_rfl)) fun a HF => ?_
 refine fy HF HM 6 rfl rfl rfl (v := .agg s.cells) (Yl.qr rfl rfl qx rfl (fun _ h => qe (h.blk (i := 0) rfl))) fun a HF => ?_
 refine fy HF HM 7 rfl rfl rfl (v := .func (.func 83) #[.agg s.cells] #[]) (Yl.makeFunc (fst := [.agg s.cells]) (caps := []) rfl rfl rfl) fun a HF => ?_
 refine fy HF HM 8 rfl rfl rfl (v := .agg #[.string (ByteArray.mk #[103, 114, 111, 117, 112, 115]), .func (.func 83) #[.agg s.cells] #[]]) (Yl.build (vs := [(0, .string (ByteArray.mk #[103, 114, 111, 117, 112, 115])), (1, .func (.func 83) #[.agg s.cells] #[])]) rfl (by kernel_rfl) (by kernel_rfl)) fun a HF => ?_
 refine fy HF HM 9 rfl rfl rfl (v := .agg s.cells) (Yl.qr rfl rfl qx rfl (fun _ h => qe (h.blk (i := 0) rfl))) fun a HF => ?_
 refine fy HF HM 10 rfl rfl rfl (v := .func (.func 84) #[.agg s.cells] #[]) (Yl.makeFunc (fst := [.agg s.cells]) (caps := []) rfl rfl rfl) fun a HF => ?_
 refine fy HF HM 11 rfl rfl rfl (v := .agg #[.string (ByteArray.mk #[99, 108, 111, 99, 107, 115]), .func (.func 84) #[.agg s.cells] #[]]) (Yl.build (vs := [(0, .string (ByteArray.mk #[99, 108, 111, 99, 107, 115])), (1, .func (.func 84) #[.agg s.cells] #[])]) rfl (by kernel_rfl) (by kernel_rfl)) fun a HF => ?_
 refine fy HF HM 12 rfl rfl rfl (v := .agg s.cells) (Yl.qr rfl rfl qx rfl (fun _ h => qe (h.blk (i := 0) rfl))) fun a HF => ?_
 refine fy HF HM 13 rfl rfl rfl (v := .func (.func 85) #[.agg s.cells] #[]) (Yl.makeFunc (fst := [.agg s.cells]) (caps := []) rfl rfl rfl) fun a HF => ?_
 refine fy HF HM 14 rfl rfl rfl (v := .agg #[.string (ByteArray.mk #[99, 117, 114, 114, 101, 110, 116]), .func (.func 85) #[.agg s.cells] #[]]) (Yl.build (vs := [(0, .string (ByteArray.mk #[99, 117, 114, 114, 101, 110, 116])), (1, .func (.func 85) #[.agg s.cells] #[])]) rfl (by kernel_rfl) (by kernel_rfl)) fun a HF => ?_
 refine fy HF HM 15 rfl rfl rfl (v := .agg s.cells) (Yl.qr rfl rfl qx rfl (fun _ h => qe (h.blk (i := 0) rfl))) fun a HF => ?_
 refine fy HF HM 16 rfl rfl rfl (v := .func (.func 86) #[.agg s.cells] #[]) (Yl.makeFunc (fst := [.agg s.cells]) (caps := []) rfl rfl rfl) fun a HF => ?_
 refine fy HF HM 17 rfl rfl rfl (v := .agg #[.string (ByteArray.mk #[116, 97, 115, 107, 115]), .func (.func 86) #[.agg s.cells] #[]]) (Yl.build (vs := [(0, .string (ByteArray.mk #[116, 97, 115, 107, 115])), (1, .func (.func 86) #[.agg s.cells] #[])]) rfl (by kernel_rfl) (by kernel_rfl)) fun a HF => ?_
 refine fy HF HM 18 rfl rfl rfl (v := .agg s.cells) (Yl.qr rfl rfl qx rfl (fun _ h => qe (h.blk (i := 0) rfl))) fun a HF => ?_
 refine fy HF HM 19 rfl rfl rfl (v := .func (.func 87) #[.agg s.cells] #[]) (Yl.makeFunc (fst := [.agg s.cells]) (caps := []) rfl rfl rfl) fun a HF => ?_
 refine fy HF HM 20 rfl rfl rfl (v := .agg #[.string (ByteArray.mk #[115, 112, 111, 116, 115]), .func (.func 87) #[.agg s.cells] #[]]) (Yl.build (vs := [(0, .string (ByteArray.mk #[115, 112, 111, 116, 115])), (1, .func (.func 87) #[.agg s.cells] #[])]) rfl (by kernel_rfl) (by kernel_rfl)) fun a HF => ?_
 refine fo HF 21 rfl rfl ?_
 refine qt HF HM (vs := [(0, .agg #[.string (ByteArray.mk #[110, 101, 120, 116]), .func (.func 81) #[.agg s.cells] #[]]), (1, .agg #[.string (ByteArray.mk #[99, 111, 110, 102, 105, 103]), .func (.func 82) #[.agg s.cells] #[]]), (2, .agg #[.string (ByteArray.mk #[103, 114, 111, 117, 112, 115]), .func (.func 83) #[.agg s.cells] #[]]), (3, .agg #[.string (ByteArray.mk #[99, 108, 111, 99, 107, 115]), .func (.func 84) #[.agg s.cells] #[]]), (4, .agg #[.string (ByteArray.mk #[99, 117, 114, 114, 101, 110, 116]), .func (.func 85) #[.agg s.cells] #[]]), (5, .agg #[.string (ByteArray.mk #[116, 97, 115, 107, 115]), .func (.func 86) #[.agg s.cells] #[]]), (6, .agg #[.string (ByteArray.mk #[115, 112, 111, 116, 115]), .func (.func 87) #[.agg s.cells] #[]])]) (cs := (q9 s)) rfl qup (by decide) rfl (by kernel_rfl) rfl (by decide) ?_
 clear HF HM; intro a w25 g25 HF HM
 refine fo HF 22 rfl rfl ?_
 refine qs HF HM (cs := #[.slice none 0 0]) rfl (by kernel_rfl) rfl (by decide) ?_
 clear HF HM; intro a w3 g3 HF HM
 refine fo HF 23 rfl rfl ?_
 refine q4 HF HM (i := 0) rfl rfl rfl rfl (by kernel_rfl) rfl rfl (by simp) ?_
 clear HM; intro w1_23 HM
 refine qb rfl (wp_seq (qa ?_))
 refine fy HF HM 0 rfl rfl rfl (v := .func (.func 88) #[] #[vP g3 0]) (Yl.makeFunc (fst := []) (caps := [vP g3 0]) rfl rfl rfl) fun a HF => ?_
 refine fp HF 1 1 [(2, .func (.func 88) #[] #[vP g3 0])] fun a HF => ?_
 refine qb rfl (wp_ret ?_)
 exact ret1 rfl HF (.tmp HF rfl) (⟨_, _, rfl, HM.picks [0, 1] (by decide) rfl⟩)
theorem qg1 (W w : World) (gv gp lp : Nat) (s : Snm) (hok : s.st.sta.Ok) (hf : StFew s.st) (hx : StRd W s.st) (hc : StCap s.st) (hsh : ShAt s.st) (Inv : Nat → List Fact → Prop) (F0 : List Fact) (hy : qh1 Tryz.prog W lp s Inv) (hI0 : Inv 0 F0) (HM : Mem W w (.blk gv #[.slice (some ⟨gp, 0, none⟩) 7 7] 147 :: .blk gp (q9 s) 146 :: F0)) :
    Calls Tryz.prog 88 (.func (.yield lp) #[] #[] :: [.pointer (some ⟨gv, 0, none⟩)]).toArray w (qoz W (Inv 7)) := by
 refine qg (vs := [.func (.yield lp) #[] #[], vP gv 0]) Tryz.func88 rfl rfl (by kernel_rfl) (σ0 := [(0, .func (.yield lp) #[] #[]), (1, vP gv 0)]) rfl ?_
 intro a HF
 refine wp_seq (qa ?_)
 refine fy HF HM 0 rfl rfl rfl (Yl.qf rfl rfl (by kernel_rfl) (fun _ h => h.cell (i := 0) rfl rfl)) fun a HF => ?_
 refine fy HF HM 1 rfl rfl rfl (Yl.len rfl rfl (by kernel_rfl)) fun a HF => ?_
 refine fp HF 1 2 [(7, vI 0)] fun a HF => ?_
 refine qb rfl (wp_block ?_)
 refine qo (fun mS aS wS => ∃ (k : Nat) (F : List Fact), (k ≤ 7) ∧ (Inv k F) ∧ mS = 7 - k ∧ Fr aS 20 [] [(7, vI k), (6, vI 7), (5, vS gp 7 7), (0, .func (.yield lp) #[] #[])] ∧ Mem W wS (.blk gv #[vS gp 7 7] 147 :: .blk gp (q9 s) 146 :: F)) (m := 7 - 0) ⟨0, F0, by decide, hI0, rfl, HF.sub (by kernel_rfl), HM.picksT 2 [0, 1] (by decide) (by decide) rfl⟩ ?_
 clear HF HM; rintro mS a w_ ⟨k, F, hk, hI, rfl, HF, HM⟩
 refine wp_seq (qa ?_)
 refine fp HF 1 0 [(8, .bool (decide ((k : Int) < (7 : Int))))] fun a HF => ?_
 refine qb rfl (wp_seq ?_)
 rcases HF.tf 8 rfl with ⟨hb8, HF⟩ | ⟨hb8, HF⟩
 ·
  have hd8 := of_decide_eq_true hb8
  obtain rfl | rfl | rfl | rfl | rfl | rfl | rfl : k = 0 ∨ k = 1 ∨ k = 2 ∨ k = 3 ∨ k = 4 ∨ k = 5 ∨ k = 6 := by omega
  ·
   replace HF := HF.as (t := 7) (u := vI 0) rfl rfl
   refine qd HF rfl (wp_skip (wp_seq (wp_block (wp_seq (qa ?_)))))
   refine fy HF HM 0 rfl rfl rfl (v := vP gp 0) (Yl.indexAddr (ad := ⟨gp, 0, none⟩) (y := 0) (sz := 2) rfl rfl rfl (by decide) (by kernel_rfl)) fun a HF => ?_
   refine fy HF HM 1 rfl rfl rfl (v := .agg #[.string (ByteArray.mk #[110, 101, 120, 116]), .func (.func 81) #[.agg s.cells] #[]]) (Yl.qr rfl rfl qar rfl (fun _ h => h.sub (i := 1) rfl 0 rfl)) fun a HF => ?_
   refine fo HF 2 rfl rfl ?_
   refine qs HF HM (cs := #[.string (ByteArray.mk #[]), .nilFunc]) rfl (by kernel_rfl) rfl (by decide) ?_
   clear HF HM; intro a w4 g4 HF HM
   refine fo HF 3 rfl rfl ?_
   refine e_sa HF HM 0 rfl rfl rfl rfl rfl qar rfl rfl (by simp [Value.oneCell']) ?_
   clear HM; intro w2_3 HM
   refine qb rfl (wp_seq ?_)
   refine qcc 6 HM (.blk g4 #[.string (ByteArray.mk #[110, 101, 120, 116]), .func (.func 81) #[.agg s.cells] #[]] 146 :: .blk gv #[vS gp 7 7] 147 :: .blk gp (q9 s) 146 :: F) 3 [0, 1, 2] [] fun HM HS => ?_
   refine ap HF (fun _ => HS) [0, 1, 3] #[true, true, false, true, false, false] [(14, vP g4 1), (12, vP g4 0), (11, .func (.yield lp) #[] #[])] fun a HF => ?_
   refine ay HF HS 2 rfl rfl rfl (Yl.qf rfl rfl (by kernel_rfl) (fun _ h => h.cell (i := 0) rfl rfl)) fun a HF => ?_
   refine ay HF HS 4 rfl rfl rfl (Yl.qf rfl rfl (by kernel_rfl) (fun _ h => h.cell (i := 0) rfl rfl)) fun a HF => ?_
   refine qm [5] (by kernel_rfl) rfl ?_
   refine all_cons ?_ all_nil
   refine qk HF (i := 5) rfl rfl ?_
   refine qax HF (f := 81) (vs := []) (fst := [.agg s.cells]) (caps := []) rfl rfl rfl (by kernel_rfl) rfl (by decide) (qqo s hok hf _ (hx.old HM)) ?_
   rintro _ w16 ⟨⟨A16, c16, rfl, ho, hc16⟩, hbw⟩
   refine ⟨_, rfl, ?_⟩
   replace HM := HM.callRow hbw ho
   clear HF; intro a HF
   refine keepS (HM.picksT 4 [1, 2, 3] (by decide) (by decide) rfl) (fun HS => ?_)
   refine qq (by kernel_rfl) ?_
   replace HM := HM.picksT (fs' := (.row (.slice A16 ((secN s 0).length) c16) ((secN s 0).length) ((secN s 0).map U64) 22 1 :: .blk g4 #[.string (ByteArray.mk #[110, 101, 120, 116]), .func (.func 81) #[.agg s.cells] #[]] 146 :: .blk gv #[vS gp 7 7] 147 :: .blk gp (q9 s) 146 :: F)) 4 [0, 1, 2, 3] (by decide) (by decide) rfl
   refine qbk HF (i := 6) (vs := [.string (ByteArray.mk #[110, 101, 120, 116]), .slice A16 ((secN s 0).length) c16]) rfl rfl rfl rfl rfl rfl (by decide) (hy 0 F [.blk g4 #[.string (ByteArray.mk #[110, 101, 120, 116]), .func (.func 81) #[.agg s.cells] #[]] 146, .blk gv #[vS gp 7 7] 147, .blk gp (q9 s) 146] _ A16 c16 hI (by omega) hc16 (Mem.qda (es := [.blk g4 #[.string (ByteArray.mk #[110, 101, 120, 116]), .func (.func 81) #[.agg s.cells] #[]] 146, .blk gv #[vS gp 7 7] 147, .blk gp (q9 s) 146]) HM)) zj ?_
   clear HF HM; rintro v w20 a ⟨F2, HM, hv, hI2⟩ HF; injection hv with hv; subst hv
   replace HM : Mem W w20 (.blk g4 #[.string (ByteArray.mk #[110, 101, 120, 116]), .func (.func 81) #[.agg s.cells] #[]] 146 :: .blk gv #[vS gp 7 7] 147 :: .blk gp (q9 s) 146 :: F2) := Mem.qcf (es := [.blk g4 #[.string (ByteArray.mk #[110, 101, 120, 116]), .func (.func 81) #[.agg s.cells] #[]] 146, .blk gv #[vS gp 7 7] 147, .blk gp (q9 s) 146]) HM
   replace HF := HF.to [(17, .bool true), (7, vI 0), (6, vI 7), (5, vS gp 7 7), (0, .func (.yield lp) #[] #[])]
   refine fp HF 1 7 [(18, .bool false)] fun a HF => ?_
   refine qb rfl (qc HF rfl (wp_skip (qa ?_)))
   refine fp HF 2 0 [(7, vI 1)] fun a HF => ?_
   refine qb rfl ?_
   exact ⟨_, (by omega), 1, F2, by omega, hI2, rfl, HF.sub (by kernel_rfl), HM.picksT 3 [1, 2] (by decide) (by decide) rfl⟩
  ·
   replace HF := HF.as (t := 7) (u := vI 1) rfl rfl
   refine qd HF rfl (wp_skip (wp_seq (wp_block (wp_seq (qa ?_)))))
   refine fy HF HM 0 rfl rfl rfl (v := vP gp 2) (Yl.indexAddr (ad := ⟨gp, 0, none⟩) (y := 1) (sz := 2) rfl rfl rfl (by decide) (by kernel_rfl)) fun a HF => ?_
   refine fy HF HM 1 rfl rfl rfl (v := .agg #[.string (ByteArray.mk #[99, 111, 110, 102, 105, 103]), .func (.func 82) #[.agg s.cells] #[]]) (Yl.qr rfl rfl qar rfl (fun _ h => h.sub (i := 1) rfl 2 rfl)) fun a HF => ?_
   refine fo HF 2 rfl rfl ?_
   refine qs HF HM (cs := #[.string (ByteArray.mk #[]), .nilFunc]) rfl (by kernel_rfl) rfl (by decide) ?_
   clear HF HM; intro a w4 g4 HF HM
   refine fo HF 3 rfl rfl ?_
   refine e_sa HF HM 0 rfl rfl rfl rfl rfl qar rfl rfl (by simp [Value.oneCell']) ?_
   clear HM; intro w2_3 HM
   refine qb rfl (wp_seq ?_)
   refine qcc 6 HM (.blk g4 #[.string (ByteArray.mk #[99, 111, 110, 102, 105, 103]), .func (.func 82) #[.agg s.cells] #[]] 146 :: .blk gv #[vS gp 7 7] 147 :: .blk gp (q9 s) 146 :: F) 3 [0, 1, 2] [] fun HM HS => ?_
   refine ap HF (fun _ => HS) [0, 1, 3] #[true, true, false, true, false, false] [(14, vP g4 1), (12, vP g4 0), (11, .func (.yield lp) #[] #[])] fun a HF => ?_
   refine ay HF HS 2 rfl rfl rfl (Yl.qf rfl rfl (by kernel_rfl) (fun _ h => h.cell (i := 0) rfl rfl)) fun a HF => ?_
   refine ay HF HS 4 rfl rfl rfl (Yl.qf rfl rfl (by kernel_rfl) (fun _ h => h.cell (i := 0) rfl rfl)) fun a HF => ?_
   refine qm [5] (by kernel_rfl) rfl ?_
   refine all_cons ?_ all_nil
   refine qk HF (i := 5) rfl rfl ?_
   refine qax HF (f := 82) (vs := []) (fst := [.agg s.cells]) (caps := []) rfl rfl rfl (by kernel_rfl) rfl (by decide) (qkn s hok hf _ (hx.old HM)) ?_
   rintro _ w16 ⟨⟨A16, c16, rfl, ho, hc16⟩, hbw⟩
   refine ⟨_, rfl, ?_⟩
   replace HM := HM.callRow hbw ho
   clear HF; intro a HF
   refine keepS (HM.picksT 4 [1, 2, 3] (by decide) (by decide) rfl) (fun HS => ?_)
   refine qq (by kernel_rfl) ?_
   replace HM := HM.picksT (fs' := (.row (.slice A16 ((secN s 1).length) c16) ((secN s 1).length) ((secN s 1).map U64) 22 1 :: .blk g4 #[.string (ByteArray.mk #[99, 111, 110, 102, 105, 103]), .func (.func 82) #[.agg s.cells] #[]] 146 :: .blk gv #[vS gp 7 7] 147 :: .blk gp (q9 s) 146 :: F)) 4 [0, 1, 2, 3] (by decide) (by decide) rfl
   refine qbk HF (i := 6) (vs := [.string (ByteArray.mk #[99, 111, 110, 102, 105, 103]), .slice A16 ((secN s 1).length) c16]) rfl rfl rfl rfl rfl rfl (by decide) (hy 1 F [.blk g4 #[.string (ByteArray.mk #[99, 111, 110, 102, 105, 103]), .func (.func 82) #[.agg s.cells] #[]] 146, .blk gv #[vS gp 7 7] 147, .blk gp (q9 s) 146] _ A16 c16 hI (by omega) hc16 (Mem.qda (es := [.blk g4 #[.string (ByteArray.mk #[99, 111, 110, 102, 105, 103]), .func (.func 82) #[.agg s.cells] #[]] 146, .blk gv #[vS gp 7 7] 147, .blk gp (q9 s) 146]) HM)) zj ?_
   clear HF HM; rintro v w20 a ⟨F2, HM, hv, hI2⟩ HF; injection hv with hv; subst hv
   replace HM : Mem W w20 (.blk g4 #[.string (ByteArray.mk #[99, 111, 110, 102, 105, 103]), .func (.func 82) #[.agg s.cells] #[]] 146 :: .blk gv #[vS gp 7 7] 147 :: .blk gp (q9 s) 146 :: F2) := Mem.qcf (es := [.blk g4 #[.string (ByteArray.mk #[99, 111, 110, 102, 105, 103]), .func (.func 82) #[.agg s.cells] #[]] 146, .blk gv #[vS gp 7 7] 147, .blk gp (q9 s) 146]) HM
   replace HF := HF.to [(17, .bool true), (7, vI 1), (6, vI 7), (5, vS gp 7 7), (0, .func (.yield lp) #[] #[])]
   refine fp HF 1 7 [(18, .bool false)] fun a HF => ?_
   refine qb rfl (qc HF rfl (wp_skip (qa ?_)))
   refine fp HF 2 0 [(7, vI 2)] fun a HF => ?_
   refine qb rfl ?_
   exact ⟨_, (by omega), 2, F2, by omega, hI2, rfl, HF.sub (by kernel_rfl), HM.picksT 3 [1, 2] (by decide) (by decide) rfl⟩
  ·
   replace HF := HF.as (t := 7) (u := vI 2) rfl rfl
   refine qd HF rfl (wp_skip (wp_seq (wp_block (wp_seq (qa ?_)))))
   refine fy HF HM 0 rfl rfl rfl (v := vP gp 4) (Yl.indexAddr (ad := ⟨gp, 0, none⟩) (y := 2) (sz := 2) rfl rfl rfl (by decide) (by kernel_rfl)) fun a HF => ?_
   refine fy HF HM 1 rfl rfl rfl (v := .agg #[.string (ByteArray.mk #[103, 114, 111, 117, 112, 115]), .func (.func 83) #[.agg s.cells] #[]]) (Yl.qr rfl rfl qar rfl (fun _ h => h.sub (i := 1) rfl 4 rfl)) fun a HF => ?_
   refine fo HF 2 rfl rfl ?_
   refine qs HF HM (cs := #[.string (ByteArray.mk #[]), .nilFunc]) rfl (by kernel_rfl) rfl (by decide) ?_
   clear HF HM; intro a w4 g4 HF HM
   refine fo HF 3 rfl rfl ?_
   refine e_sa HF HM 0 rfl rfl rfl rfl rfl qar rfl rfl (by simp [Value.oneCell']) ?_
   clear HM; intro w2_3 HM
   refine qb rfl (wp_seq ?_)
   refine qcc 6 HM (.blk g4 #[.string (ByteArray.mk #[103, 114, 111, 117, 112, 115]), .func (.func 83) #[.agg s.cells] #[]] 146 :: .blk gv #[vS gp 7 7] 147 :: .blk gp (q9 s) 146 :: F) 3 [0, 1, 2] [] fun HM HS => ?_
   refine ap HF (fun _ => HS) [0, 1, 3] #[true, true, false, true, false, false] [(14, vP g4 1), (12, vP g4 0), (11, .func (.yield lp) #[] #[])] fun a HF => ?_
   refine ay HF HS 2 rfl rfl rfl (Yl.qf rfl rfl (by kernel_rfl) (fun _ h => h.cell (i := 0) rfl rfl)) fun a HF => ?_
   refine ay HF HS 4 rfl rfl rfl (Yl.qf rfl rfl (by kernel_rfl) (fun _ h => h.cell (i := 0) rfl rfl)) fun a HF => ?_
   refine qm [5] (by kernel_rfl) rfl ?_
   refine all_cons ?_ all_nil
   refine qk HF (i := 5) rfl rfl ?_
   refine qax HF (f := 83) (vs := []) (fst := [.agg s.cells]) (caps := []) rfl rfl rfl (by kernel_rfl) rfl (by decide) (qkp s hok hf _ (hx.old HM) hc hsh) ?_
   rintro _ w16 ⟨⟨A16, c16, rfl, ho, hc16⟩, hbw⟩
   refine ⟨_, rfl, ?_⟩
   replace HM := HM.callRow hbw ho
   clear HF; intro a HF
   refine keepS (HM.picksT 4 [1, 2, 3] (by decide) (by decide) rfl) (fun HS => ?_)
   refine qq (by kernel_rfl) ?_
   replace HM := HM.picksT (fs' := (.row (.slice A16 ((secN s 2).length) c16) ((secN s 2).length) ((secN s 2).map U64) 22 1 :: .blk g4 #[.string (ByteArray.mk #[103, 114, 111, 117, 112, 115]), .func (.func 83) #[.agg s.cells] #[]] 146 :: .blk gv #[vS gp 7 7] 147 :: .blk gp (q9 s) 146 :: F)) 4 [0, 1, 2, 3] (by decide) (by decide) rfl
   refine qbk HF (i := 6) (vs := [.string (ByteArray.mk #[103, 114, 111, 117, 112, 115]), .slice A16 ((secN s 2).length) c16]) rfl rfl rfl rfl rfl rfl (by decide) (hy 2 F [.blk g4 #[.string (ByteArray.mk #[103, 114, 111, 117, 112, 115]), .func (.func 83) #[.agg s.cells] #[]] 146, .blk gv #[vS gp 7 7] 147, .blk gp (q9 s) 146] _ A16 c16 hI (by omega) hc16 (Mem.qda (es := [.blk g4 #[.string (ByteArray.mk #[103, 114, 111, 117, 112, 115]), .func (.func 83) #[.agg s.cells] #[]] 146, .blk gv #[vS gp 7 7] 147, .blk gp (q9 s) 146]) HM)) zj ?_
   clear HF HM; rintro v w20 a ⟨F2, HM, hv, hI2⟩ HF; injection hv with hv; subst hv
   replace HM : Mem W w20 (.blk g4 #[.string (ByteArray.mk #[103, 114, 111, 117, 112, 115]), .func (.func 83) #[.agg s.cells] #[]] 146 :: .blk gv #[vS gp 7 7] 147 :: .blk gp (q9 s) 146 :: F2) := Mem.qcf (es := [.blk g4 #[.string (ByteArray.mk #[103, 114, 111, 117, 112, 115]), .func (.func 83) #[.agg s.cells] #[]] 146, .blk gv #[vS gp 7 7] 147, .blk gp (q9 s) 146]) HM
   replace HF := HF.to [(17, .bool true), (7, vI 2), (6, vI 7), (5, vS gp 7 7), (0, .func (.yield lp) #[] #[])]
   refine fp HF 1 7 [(18, .bool false)] fun a HF => ?_
   refine qb rfl (qc HF rfl (wp_skip (qa ?_)))
   refine fp HF 2 0 [(7, vI 3)] fun a HF => ?_
   refine qb rfl ?_
   exact ⟨_, (by omega), 3, F2, by omega, hI2, rfl, HF.sub (by kernel_rfl), HM.picksT 3 [1, 2] (by decide) (by decide) rfl⟩
  ·
   replace HF := HF.as (t := 7) (u := vI 3) rfl rfl
   refine qd HF rfl (wp_skip (wp_seq (wp_block (wp_seq (qa ?_)))))
   refine fy HF HM 0 rfl rfl rfl (v := vP gp 6) (Yl.indexAddr (ad := ⟨gp, 0, none⟩) (y := 3) (sz := 2) rfl rfl rfl (by decide) (by kernel_rfl)) fun a HF => ?_
   refine fy HF HM 1 rfl rfl rfl (v := .agg #[.string (ByteArray.mk #[99, 108, 111, 99, 107, 115]), .func (.func 84) #[.agg s.cells] #[]]) (Yl.qr rfl rfl qar rfl (fun _ h => h.sub (i := 1) rfl 6 rfl)) fun a HF => ?_
   refine fo HF 2 rfl rfl ?_
   refine qs HF HM (cs := #[.string (ByteArray.mk #[]), .nilFunc]) rfl (by kernel_rfl) rfl (by decide) ?_
   clear HF HM; intro a w4 g4 HF HM
   refine fo HF 3 rfl rfl ?_
   refine e_sa HF HM 0 rfl rfl rfl rfl rfl qar rfl rfl (by simp [Value.oneCell']) ?_
   clear HM; intro w2_3 HM
   refine qb rfl (wp_seq ?_)
   refine qcc 6 HM (.blk g4 #[.string (ByteArray.mk #[99, 108, 111, 99, 107, 115]), .func (.func 84) #[.agg s.cells] #[]] 146 :: .blk gv #[vS gp 7 7] 147 :: .blk gp (q9 s) 146 :: F) 3 [0, 1, 2] [] fun HM HS => ?_
   refine ap HF (fun _ => HS) [0, 1, 3] #[true, true, false, true, false, false] [(14, vP g4 1), (12, vP g4 0), (11, .func (.yield lp) #[] #[])] fun a HF => ?_
   refine ay HF HS 2 rfl rfl rfl (Yl.qf rfl rfl (by kernel_rfl) (fun _ h => h.cell (i := 0) rfl rfl)) fun a HF => ?_
   refine ay HF HS 4 rfl rfl rfl (Yl.qf rfl rfl (by kernel_rfl) (fun _ h => h.cell (i := 0) rfl rfl)) fun a HF => ?_
   refine qm [5] (by kernel_rfl) rfl ?_
   refine all_cons ?_ all_nil
   refine qk HF (i := 5) rfl rfl ?_
   refine qax HF (f := 84) (vs := []) (fst := [.agg s.cells]) (caps := []) rfl rfl rfl (by kernel_rfl) rfl (by decide) (qko s hok hf _ (hx.old HM)) ?_
   rintro _ w16 ⟨⟨A16, c16, rfl, ho, hc16⟩, hbw⟩
   refine ⟨_, rfl, ?_⟩
   replace HM := HM.callRow hbw ho
   clear HF; intro a HF
   refine keepS (HM.picksT 4 [1, 2, 3] (by decide) (by decide) rfl) (fun HS => ?_)
   refine qq (by kernel_rfl) ?_
   replace HM := HM.picksT (fs' := (.row (.slice A16 ((secN s 3).length) c16) ((secN s 3).length) ((secN s 3).map U64) 22 1 :: .blk g4 #[.string (ByteArray.mk #[99, 108, 111, 99, 107, 115]), .func (.func 84) #[.agg s.cells] #[]] 146 :: .blk gv #[vS gp 7 7] 147 :: .blk gp (q9 s) 146 :: F)) 4 [0, 1, 2, 3] (by decide) (by decide) rfl
   refine qbk HF (i := 6) (vs := [.string (ByteArray.mk #[99, 108, 111, 99, 107, 115]), .slice A16 ((secN s 3).length) c16]) rfl rfl rfl rfl rfl rfl (by decide) (hy 3 F [.blk g4 #[.string (ByteArray.mk #[99, 108, 111, 99, 107, 115]), .func (.func 84) #[.agg s.cells] #[]] 146, .blk gv #[vS gp 7 7] 147, .blk gp (q9 s) 146] _ A16 c16 hI (by omega) hc16 (Mem.qda (es := [.blk g4 #[.string (ByteArray.mk #[99, 108, 111, 99, 107, 115]), .func (.func 84) #[.agg s.cells] #[]] 146, .blk gv #[vS gp 7 7] 147, .blk gp (q9 s) 146]) HM)) zj ?_
   clear HF HM; rintro v w20 a ⟨F2, HM, hv, hI2⟩ HF; injection hv with hv; subst hv
   replace HM : Mem W w20 (.blk g4 #[.string (ByteArray.mk #[99, 108, 111, 99, 107, 115]), .func (.func 84) #[.agg s.cells] #[]] 146 :: .blk gv #[vS gp 7 7] 147 :: .blk gp (q9 s) 146 :: F2) := Mem.qcf (es := [.blk g4 #[.string (ByteArray.mk #[99, 108, 111, 99, 107, 115]), .func (.func 84) #[.agg s.cells] #[]] 146, .blk gv #[vS gp 7 7] 147, .blk gp (q9 s) 146]) HM
   replace HF := HF.to [(17, .bool true), (7, vI 3), (6, vI 7), (5, vS gp 7 7), (0, .func (.yield lp) #[] #[])]
   refine fp HF 1 7 [(18, .bool false)] fun a HF => ?_
   refine qb rfl (qc HF rfl (wp_skip (qa ?_)))
   refine fp HF 2 0 [(7, vI 4)] fun a HF => ?_
   refine qb rfl ?_
   exact ⟨_, (by omega), 4, F2, by omega, hI2, rfl, HF.sub (by kernel_rfl), HM.picksT 3 [1, 2] (by decide) (by decide) rfl⟩
  ·
   replace HF := HF.as (t := 7) (u := vI 4) rfl rfl
   refine qd HF rfl (wp_skip (wp_seq (wp_block (wp_seq (qa ?_)))))
   refine fy HF HM 0 rfl rfl rfl (v := vP gp 8) (Yl.indexAddr (ad := ⟨gp, 0, none⟩) (y := 4) (sz := 2) rfl rfl rfl (by decide) (by kernel_rfl)) fun a HF => ?_
   refine fy HF HM 1 rfl rfl rfl (v := .agg #[.string (ByteArray.mk #[99, 117, 114, 114, 101, 110, 116]), .func (.func 85) #[.agg s.cells] #[]]) (Yl.qr rfl rfl qar rfl (fun _ h => h.sub (i := 1) rfl 8 rfl)) fun a HF => ?_
   refine fo HF 2 rfl rfl ?_
   refine qs HF HM (cs := #[.string (ByteArray.mk #[]), .nilFunc]) rfl (by kernel_rfl) rfl (by decide) ?_
   clear HF HM; intro a w4 g4 HF HM
   refine fo HF 3 rfl rfl ?_
   refine e_sa HF HM 0 rfl rfl rfl rfl rfl qar rfl rfl (by simp [Value.oneCell']) ?_
   clear HM; intro w2_3 HM
   refine qb rfl (wp_seq ?_)
   refine qcc 6 HM (.blk g4 #[.string (ByteArray.mk #[99, 117, 114, 114, 101, 110, 116]), .func (.func 85) #[.agg s.cells] #[]] 146 :: .blk gv #[vS gp 7 7] 147 :: .blk gp (q9 s) 146 :: F) 3 [0, 1, 2] [] fun HM HS => ?_
   refine ap HF (fun _ => HS) [0, 1, 3] #[true, true, false, true, false, false] [(14, vP g4 1), (12, vP g4 0), (11, .func (.yield lp) #[] #[])] fun a HF => ?_
   refine ay HF HS 2 rfl rfl rfl (Yl.qf rfl rfl (by kernel_rfl) (fun _ h => h.cell (i := 0) rfl rfl)) fun a HF => ?_
   refine ay HF HS 4 rfl rfl rfl (Yl.qf rfl rfl (by kernel_rfl) (fun _ h => h.cell (i := 0) rfl rfl)) fun a HF => ?_
   refine qm [5] (by kernel_rfl) rfl ?_
   refine all_cons ?_ all_nil
   refine qk HF (i := 5) rfl rfl ?_
   refine qax HF (f := 85) (vs := []) (fst := [.agg s.cells]) (caps := []) rfl rfl rfl (by kernel_rfl) rfl (by decide) (qje s hok hf _ (hx.old HM)) ?_
   rintro _ w16 ⟨⟨A16, c16, rfl, ho, hc16⟩, hbw⟩
   refine ⟨_, rfl, ?_⟩
   replace HM := HM.callRow hbw ho
   clear HF; intro a HF
   refine keepS (HM.picksT 4 [1, 2, 3] (by decide) (by decide) rfl) (fun HS => ?_)
   refine qq (by kernel_rfl) ?_
   replace HM := HM.picksT (fs' := (.row (.slice A16 ((secN s 4).length) c16) ((secN s 4).length) ((secN s 4).map U64) 22 1 :: .blk g4 #[.string (ByteArray.mk #[99, 117, 114, 114, 101, 110, 116]), .func (.func 85) #[.agg s.cells] #[]] 146 :: .blk gv #[vS gp 7 7] 147 :: .blk gp (q9 s) 146 :: F)) 4 [0, 1, 2, 3] (by decide) (by decide) rfl
   refine qbk HF (i := 6) (vs := [.string (ByteArray.mk #[99, 117, 114, 114, 101, 110, 116]), .slice A16 ((secN s 4).length) c16]) rfl rfl rfl rfl rfl rfl (by decide) (hy 4 F [.blk g4 #[.string (ByteArray.mk #[99, 117, 114, 114, 101, 110, 116]), .func (.func 85) #[.agg s.cells] #[]] 146, .blk gv #[vS gp 7 7] 147, .blk gp (q9 s) 146] _ A16 c16 hI (by omega) hc16 (Mem.qda (es := [.blk g4 #[.string (ByteArray.mk #[99, 117, 114, 114, 101, 110, 116]), .func (.func 85) #[.agg s.cells] #[]] 146, .blk gv #[vS gp 7 7] 147, .blk gp (q9 s) 146]) HM)) zj ?_
   clear HF HM; rintro v w20 a ⟨F2, HM, hv, hI2⟩ HF; injection hv with hv; subst hv
   replace HM : Mem W w20 (.blk g4 #[.string (ByteArray.mk #[99, 117, 114, 114, 101, 110, 116]), .func (.func 85) #[.agg s.cells] #[]] 146 :: .blk gv #[vS gp 7 7] 147 :: .blk gp (q9 s) 146 :: F2) := Mem.qcf (es := [.blk g4 #[.string (ByteArray.mk #[99, 117, 114, 114, 101, 110, 116]), .func (.func 85) #[.agg s.cells] #[]] 146, .blk gv #[vS gp 7 7] 147, .blk gp (q9 s) 146]) HM
   replace HF := HF.to [(17, .bool true), (7, vI 4), (6, vI 7), (5, vS gp 7 7), (0, .func (.yield lp) #[] #[])]
   refine fp HF 1 7 [(18, .bool false)] fun a HF => ?_
   refine qb rfl (qc HF rfl (wp_skip (qa ?_)))
   refine fp HF 2 0 [(7, vI 5)] fun a HF => ?_
   refine qb rfl ?_
   exact ⟨_, (by omega), 5, F2, by omega, hI2, rfl, HF.sub (by kernel_rfl), HM.picksT 3 [1, 2] (by decide) (by decide) rfl⟩
  ·
   replace HF := HF.as (t := 7) (u := vI 5) rfl rfl
   refine qd HF rfl (wp_skip (wp_seq (wp_block (wp_seq (qa ?_)))))
   refine fy HF HM 0 rfl rfl rfl (v := vP gp 10) (Yl.indexAddr (ad := ⟨gp, 0, none⟩) (y := 5) (sz := 2) rfl rfl rfl (by decide) (by kernel_rfl)) fun a HF => ?_
   refine fy HF HM 1 rfl rfl rfl (v := .agg #[.string (ByteArray.mk #[116, 97, 115, 107, 115]), .func (.func 86) #[.agg s.cells] #[]]) (Yl.qr rfl rfl qar rfl (fun _ h => h.sub (i := 1) rfl 10 rfl)) fun a HF => ?_
   refine fo HF 2 rfl rfl ?_
   refine qs HF HM (cs := #[.string (ByteArray.mk #[]), .nilFunc]) rfl (by kernel_rfl) rfl (by decide) ?_
   clear HF HM; intro a w4 g4 HF HM
   refine fo HF 3 rfl rfl ?_
   refine e_sa HF HM 0 rfl rfl rfl rfl rfl qar rfl rfl (by simp [Value.oneCell']) ?_
   clear HM; intro w2_3 HM
   refine qb rfl (wp_seq ?_)
   refine qcc 6 HM (.blk g4 #[.string (ByteArray.mk #[116, 97, 115, 107, 115]), .func (.func 86) #[.agg s.cells] #[]] 146 :: .blk gv #[vS gp 7 7] 147 :: .blk gp (q9 s) 146 :: F) 3 [0, 1, 2] [] fun HM HS => ?_
   refine ap HF (fun _ => HS) [0, 1, 3] #[true, true, false, true, false, false] [(14, vP g4 1), (12, vP g4 0), (11, .func (.yield lp) #[] #[])] fun a HF => ?_
   refine ay HF HS 2 rfl rfl rfl (Yl.qf rfl rfl (by kernel_rfl) (fun _ h => h.cell (i := 0) rfl rfl)) fun a HF => ?_
   refine ay HF HS 4 rfl rfl rfl (Yl.qf rfl rfl (by kernel_rfl) (fun _ h => h.cell (i := 0) rfl rfl)) fun a HF => ?_
   refine qm [5] (by kernel_rfl) rfl ?_
   refine all_cons ?_ all_nil
   refine qk HF (i := 5) rfl rfl ?_
   refine qax HF (f := 86) (vs := []) (fst := [.agg s.cells]) (caps := []) rfl rfl rfl (by kernel_rfl) rfl (by decide) (qnb s hok hf _ (hx.old HM) hc hsh) ?_
   rintro _ w16 ⟨⟨A16, c16, rfl, ho, hc16⟩, hbw⟩
   refine ⟨_, rfl, ?_⟩
   replace HM := HM.callRow hbw ho
   clear HF; intro a HF
   refine keepS (HM.picksT 4 [1, 2, 3] (by decide) (by decide) rfl) (fun HS => ?_)
   refine qq (by kernel_rfl) ?_
   replace HM := HM.picksT (fs' := (.row (.slice A16 ((secN s 5).length) c16) ((secN s 5).length) ((secN s 5).map U64) 22 1 :: .blk g4 #[.string (ByteArray.mk #[116, 97, 115, 107, 115]), .func (.func 86) #[.agg s.cells] #[]] 146 :: .blk gv #[vS gp 7 7] 147 :: .blk gp (q9 s) 146 :: F)) 4 [0, 1, 2, 3] (by decide) (by decide) rfl
   refine qbk HF (i := 6) (vs := [.string (ByteArray.mk #[116, 97, 115, 107, 115]), .slice A16 ((secN s 5).length) c16]) rfl rfl rfl rfl rfl rfl (by decide) (hy 5 F [.blk g4 #[.string (ByteArray.mk #[116, 97, 115, 107, 115]), .func (.func 86) #[.agg s.cells] #[]] 146, .blk gv #[vS gp 7 7] 147, .blk gp (q9 s) 146] _ A16 c16 hI (by omega) hc16 (Mem.qda (es := [.blk g4 #[.string (ByteArray.mk #[116, 97, 115, 107, 115]), .func (.func 86) #[.agg s.cells] #[]] 146, .blk gv #[vS gp 7 7] 147, .blk gp (q9 s) 146]) HM)) zj ?_
   clear HF HM; rintro v w20 a ⟨F2, HM, hv, hI2⟩ HF; injection hv with hv; subst hv
   replace HM : Mem W w20 (.blk g4 #[.string (ByteArray.mk #[116, 97, 115, 107, 115]), .func (.func 86) #[.agg s.cells] #[]] 146 :: .blk gv #[vS gp 7 7] 147 :: .blk gp (q9 s) 146 :: F2) := Mem.qcf (es := [.blk g4 #[.string (ByteArray.mk #[116, 97, 115, 107, 115]), .func (.func 86) #[.agg s.cells] #[]] 146, .blk gv #[vS gp 7 7] 147, .blk gp (q9 s) 146]) HM
   replace HF := HF.to [(17, .bool true), (7, vI 5), (6, vI 7), (5, vS gp 7 7), (0, .func (.yield lp) #[] #[])]
   refine fp HF 1 7 [(18, .bool false)] fun a HF => ?_
   refine qb rfl (qc HF rfl (wp_skip (qa ?_)))
   refine fp HF 2 0 [(7, vI 6)] fun a HF => ?_
   refine qb rfl ?_
   exact ⟨_, (by omega), 6, F2, by omega, hI2, rfl, HF.sub (by kernel_rfl), HM.picksT 3 [1, 2] (by decide) (by decide) rfl⟩
  ·
   replace HF := HF.as (t := 7) (u := vI 6) rfl rfl
   refine qd HF rfl (wp_skip (wp_seq (wp_block (wp_seq (qa ?_)))))
   refine fy HF HM 0 rfl rfl rfl (v := vP gp 12) (Yl.indexAddr (ad := ⟨gp, 0, none⟩) (y := 6) (sz := 2) rfl rfl rfl (by decide) (by kernel_rfl)) fun a HF => ?_
   refine fy HF HM 1 rfl rfl rfl (v := .agg #[.string (ByteArray.mk #[115, 112, 111, 116, 115]), .func (.func 87) #[.agg s.cells] #[]]) (Yl.qr rfl rfl qar rfl (fun _ h => h.sub (i := 1) rfl 12 rfl)) fun a HF => ?_
   refine fo HF 2 rfl rfl ?_
   refine qs HF HM (cs := #[.string (ByteArray.mk #[]), .nilFunc]) rfl (by kernel_rfl) rfl (by decide) ?_
   clear HF HM; intro a w4 g4 HF HM
   refine fo HF 3 rfl rfl ?_
   refine e_sa HF HM 0 rfl rfl rfl rfl rfl qar rfl rfl (by simp [Value.oneCell']) ?_
   clear HM; intro w2_3 HM
   refine qb rfl (wp_seq ?_)
   refine qcc 6 HM (.blk g4 #[.string (ByteArray.mk #[115, 112, 111, 116, 115]), .func (.func 87) #[.agg s.cells] #[]] 146 :: .blk gv #[vS gp 7 7] 147 :: .blk gp (q9 s) 146 :: F) 3 [0, 1, 2] [] fun HM HS => ?_
   refine ap HF (fun _ => HS) [0, 1, 3] #[true, true, false, true, false, false] [(14, vP g4 1), (12, vP g4 0), (11, .func (.yield lp) #[] #[])] fun a HF => ?_
   refine ay HF HS 2 rfl rfl rfl (Yl.qf rfl rfl (by kernel_rfl) (fun _ h => h.cell (i := 0) rfl rfl)) fun a HF => ?_
   refine ay HF HS 4 rfl rfl rfl (Yl.qf rfl rfl (by kernel_rfl) (fun _ h => h.cell (i := 0) rfl rfl)) fun a HF => ?_
   refine qm [5] (by kernel_rfl) rfl ?_
   refine all_cons ?_ all_nil
   refine qk HF (i := 5) rfl rfl ?_
   refine qax HF (f := 87) (vs := []) (fst := [.agg s.cells]) (caps := []) rfl rfl rfl (by kernel_rfl) rfl (by decide) (qnc s hok hf _ (hx.old HM) hc hsh) ?_
   rintro _ w16 ⟨⟨A16, c16, rfl, ho, hc16⟩, hbw⟩
   refine ⟨_, rfl, ?_⟩
   replace HM := HM.callRow hbw ho
   clear HF; intro a HF
   refine keepS (HM.picksT 4 [1, 2, 3] (by decide) (by decide) rfl) (fun HS => ?_)
   refine qq (by kernel_rfl) ?_
   replace HM := HM.picksT (fs' := (.row (.slice A16 ((secN s 6).length) c16) ((secN s 6).length) ((secN s 6).map U64) 22 1 :: .blk g4 #[.string (ByteArray.mk #[115, 112, 111, 116, 115]), .func (.func 87) #[.agg s.cells] #[]] 146 :: .blk gv #[vS gp 7 7] 147 :: .blk gp (q9 s) 146 :: F)) 4 [0, 1, 2, 3] (by decide) (by decide) rfl
   refine qbk HF (i := 6) (vs := [.string (ByteArray.mk #[115, 112, 111, 116, 115]), .slice A16 ((secN s 6).length) c16]) rfl rfl rfl rfl rfl rfl (by decide) (hy 6 F [.blk g4 #[.string (ByteArray.mk #[115, 112, 111, 116, 115]), .func (.func 87) #[.agg s.cells] #[]] 146, .blk gv #[vS gp 7 7] 147, .blk gp (q9 s) 146] _ A16 c16 hI (by omega) hc16 (Mem.qda (es := [.blk g4 #[.string (ByteArray.mk #[115, 112, 111, 116, 115]), .func (.func 87) #[.agg s.cells] #[]] 146, .blk gv #[vS gp 7 7] 147, .blk gp (q9 s) 146]) HM)) zj ?_
   clear HF HM; rintro v w20 a ⟨F2, HM, hv, hI2⟩ HF; injection hv with hv; subst hv
   replace HM : Mem W w20 (.blk g4 #[.string (ByteArray.mk #[115, 112, 111, 116, 115]), .func (.func 87) #[.agg s.cells] #[]] 146 :: .blk gv #[vS gp 7 7] 147 :: .blk gp (q9 s) 146 :: F2) := Mem.qcf (es := [.blk g4 #[.string (ByteArray.mk #[115, 112, 111, 116, 115]), .func (.func 87) #[.agg s.cells] #[]] 146, .blk gv #[vS gp 7 7] 147, .blk gp (q9 s) 146]) HM
   replace HF := HF.to [(17, .bool true), (7, vI 6), (6, vI 7), (5, vS gp 7 7), (0, .func (.yield lp) #[] #[])]
   refine fp HF 1 7 [(18, .bool false)] fun a HF => ?_
   refine qb rfl (qc HF rfl (wp_skip (qa ?_)))
   refine fp HF 2 0 [(7, vI 7)] fun a HF => ?_
   refine qb rfl ?_
   exact ⟨_, (by omega), 7, F2, by omega, hI2, rfl, HF.sub (by kernel_rfl), HM.picksT 3 [1, 2] (by decide) (by decide) rfl⟩
 have hd8 := of_decide_eq_false hb8
 refine qc HF rfl (wp_exit ?_)
 obtain rfl : k = 7 := by omega
 exact norm0 rfl HF ⟨_, rfl, F, Mem.qmp [.blk gv #[vS gp 7 7] 147, .blk gp (q9 s) 146] HM, hI⟩
theorem qbu (s : Snm) (hok : s.st.sta.Ok) (hf : StFew s.st) (hc : StCap s.st) (w : World) (hx : StRd w s.st) :
    Calls Tryz.prog 29 #[.agg s.cells] w (Is w (.int .i64 (chkS s : Int))) := by
 refine qg (vs := [.agg s.cells]) Tryz.func29 rfl rfl (by kernel_rfl) (σ0 := [(0, .agg s.cells)]) rfl ?_
 intro a HF
 have HM := Mem.start w
 refine wp_seq (qa ?_)
 refine fo HF 0 rfl rfl ?_
 refine e_box HF HM (cs := s.cells) rfl rfl rfl rfl (by decide) ?_
 clear HF HM; intro a w1 g1 HF HM
 refine fp HF 1 1 [(2, vI 0)] fun a HF => ?_
 refine qb rfl (wp_seq (wp_block (wp_seq (qa ?_))))
 refine fp HF 1 0 [(4, vP g1 0)] fun a HF => ?_
 refine fy HF HM 1 rfl rfl rfl (v := vI s.next) (Yl.qf rfl rfl (by kernel_rfl) (fun _ h => h.cell (i := 0) rfl (rfl))) fun a HF => ?_
 refine fp HF 2 2 [(7, .bool (decide ((s.next : Int) < (1 : Int))))] fun a HF => ?_
 rcases HF.tf 7 rfl with ⟨hb7, HF⟩ | ⟨hb7, HF⟩
 ·
  have hd7 := of_decide_eq_true hb7
  refine fp HF 5 4 [(3, .bool true)] fun a HF => ?_
  refine qb rfl (qd HF rfl (wp_seq (qa ?_)))
  refine fp HF 1 0 [(2, vI 330)] fun a HF => ?_
  refine qb rfl (wp_ret ?_)
  exact ret1 rfl HF (.tmp HF rfl) (⟨by rw [qe1 (by omega)]; rfl, HM.below⟩)
 have hd7 := of_decide_eq_false hb7
 refine fp HF 1 4 [(8, vP g1 0)] fun a HF => ?_
 refine fy HF HM 5 rfl rfl rfl (v := vI s.next) (Yl.qf rfl rfl (by kernel_rfl) (fun _ h => h.cell (i := 0) rfl (rfl))) fun a HF => ?_
 refine fp HF 3 6 [(3, .bool (decide ((s.next : Int) > (281474976710657 : Int))))] fun a HF => ?_
 refine qb rfl ?_
 rcases HF.tf 3 rfl with ⟨hb3, HF⟩ | ⟨hb3, HF⟩
 ·
  have hd3 := of_decide_eq_true hb3
  refine qd HF rfl (wp_seq (qa ?_))
  refine fp HF 1 0 [(2, vI 330)] fun a HF => ?_
  refine qb rfl (wp_ret ?_)
  exact ret1 rfl HF (.tmp HF rfl) (⟨by rw [qe1 (by omega)]; rfl, HM.below⟩)
 have hd3 := of_decide_eq_false hb3
 refine qc HF rfl (wp_seq (qa ?_))
 refine fp HF 1 0 [(13, vP g1 1)] fun a HF => ?_
 refine fy HF HM 1 rfl rfl rfl (v := .agg #[vI s.st.cpus, vQ s.st.credit, .slice s.st.gA s.st.gs.length s.st.gc, .slice s.st.lA s.st.cl.length s.st.lc, .slice s.st.uA s.st.cu.length s.st.uc, .slice s.st.tA s.st.ts.length s.st.tc, .slice s.st.sA s.st.rs.length s.st.sc]) (Yl.qr rfl rfl si_st rfl (fun _ h => h.sub (i := 0) rfl 1 rfl)) fun a HF => ?_
 replace HF := HF.sp 14 (.agg s.st.cells) rfl (rfl)
 refine fo HF 2 rfl rfl ?_
 refine e_is HF HM [.agg s.st.cells] (.bool (qak s.st.sta)) rfl rfl (qkj s.st hok hf _ (hx.old HM)) fun w15 hbw HM a HF => ?_
 refine fp HF 2 3 [(12, .bool (!(qak s.st.sta)))] fun a HF => ?_
 refine qb rfl ?_
 rcases HF.tf 12 rfl with ⟨hb12, HF⟩ | ⟨hb12, HF⟩
 ·
  refine qd HF rfl (wp_seq (qa ?_))
  refine fp HF 1 0 [(2, vI 331)] fun a HF => ?_
  refine qb rfl (wp_ret ?_)
  exact ret1 rfl HF (.tmp HF rfl) (⟨by rw [qi6 (by omega) (by simpa using hb12)]; rfl, HM.below⟩)
 refine qc HF rfl (wp_skip (wp_seq (qa ?_)))
 refine fp HF 1 0 [(2, vI 0)] fun a HF => ?_
 refine qb rfl (wp_ret ?_)
 exact ret1 rfl HF (.tmp HF rfl) (⟨by rw [qi7 (by omega) (by simpa using hb12)]; rfl, HM.below⟩)
theorem qcs (s : Snm) (hok : s.st.sta.Ok) (hf : StFew s.st) (hc : StCap s.st) (w : World) (hx : StRd w s.st) :
    Calls Tryz.prog 20 #[.agg s.cells] w (qeb w (chkS s) (numsE s)) := by
 refine qb7 (vs := [.agg s.cells]) Tryz.func20 rfl rfl (by kernel_rfl) (σ0 := [(0, .agg s.cells)]) rfl ?_
 intro a HF
 have HM := Mem.start w
 refine wp_seq (qa ?_)
 refine fo HF 0 rfl rfl ?_
 refine e_box HF HM (cs := s.cells) rfl rfl rfl rfl (by decide) ?_
 clear HF HM; intro a w1 g1 HF HM
 refine fp HF 2 1 [(3, vI 0), (2, .slice none 0 0)] fun a HF => ?_
 refine qb rfl (wp_seq (wp_seq (qa ?_)))
 refine fy HF HM 0 rfl rfl rfl (v := .agg s.cells) (Yl.qr rfl rfl qx rfl (fun _ h => qe (h.blk (i := 0) rfl))) fun a HF => ?_
 refine fo HF 1 rfl rfl ?_
 refine e_is HF HM [.agg s.cells] (vI (chkS s)) rfl rfl (qbu s hok hf hc _ (hx.old HM)) fun w9 hbw HM a HF => ?_
 refine fp HF 1 2 [(4, vI (chkS s))] fun a HF => ?_
 refine qb rfl (wp_seq (qa ?_))
 refine fp HF 2 0 [(11, .bool ((chkS s : Int) != (0 : Int)))] fun a HF => ?_
 refine qb rfl ?_
 rcases HF.tf 11 rfl with ⟨hb11, HF⟩ | ⟨hb11, HF⟩
 ·
  have hd11 := bne_iff_ne.1 hb11
  refine qd HF rfl (wp_seq (qa ?_))
  refine fp HF 3 0 [(3, vI (chkS s)), (2, .slice none 0 0)] fun a HF => ?_
  refine qb rfl (wp_ret ?_)
  refine qs9 ?_
  exact ret2 rfl HF (.tmp HF rfl) (.tmp HF rfl) (qgs _ rfl (qhr (by omega)) HM.below)
 have hd11 := bne_eq_false_iff_eq.1 hb11
 have hk0 : chkS s = 0 := by omega
 have hsh := qdo hk0
 refine qc HF rfl (wp_skip (wp_seq (qa ?_)))
 refine fo HF 0 rfl rfl ?_
 refine qs HF HM (cs := #[.slice none 0 0]) rfl (by kernel_rfl) rfl (by decide) ?_
 clear HF HM; intro a w5 g5 HF HM
 refine qb rfl ?_
 replace HM := HM.nil 22 1
 refine wp_seq (wp_seq (qa ?_))
 refine fy HF HM 0 rfl rfl rfl (v := .agg s.cells) (Yl.qr rfl rfl qx rfl (fun _ h => qe (h.blk (i := 2) rfl))) fun a HF => ?_
 refine fo HF 1 rfl rfl ?_
 refine e_cl HF [.agg s.cells] rfl rfl (qjh s _) ?_
 rintro _ w14 ⟨gv, gp, rfl, hm⟩
 refine ⟨_, rfl, ?_⟩
 replace HM := HM.join hm
 clear HF; intro a HF
 refine qb rfl (wp_block ?_)
 refine qox HF HM (fun F => ∃ (q : List Nat) (Ao : Option Addr) (co : Nat), (q = upF 7 (secN s)) ∧ (q.length ≤ co) ∧ F = [.row (.slice Ao q.length co) q.length (q.map U64) 22 1, .blk g5 #[.slice Ao q.length co] 58, .blk g1 s.cells 32]) (fun _ _ => False) rfl (by kernel_rfl) ?_ ?_ (fun _ _ _ _ _ h => h.elim)
 ·
  clear HF HM; intro lp B rec w1 hrec HM
  have hy : qh1 Tryz.prog w lp s (fun i F => ∃ (q : List Nat) (Ao : Option Addr) (co : Nat), (q = upF i (secN s)) ∧ (q.length ≤ co) ∧ F = (.obj lp (.loop (rec .ready none)) :: .obj B (.deferred (some [])) :: [.row (.slice Ao q.length co) q.length (q.map U64) 22 1, .blk g5 #[.slice Ao q.length co] 58, .blk g1 s.cells 32])) := by
   rintro i F fr w3 Ar cr ⟨q, Ao, co, hq, hco, rfl⟩ hi hcr HM
   replace HM := HM.picksT (fs' := (.obj lp (.loop (rec .ready none)) :: .row (.slice Ar ((secN s i).length) cr) ((secN s i).length) ((secN s i).map U64) 22 1 :: .obj B (.deferred (some [])) :: .row (.slice Ao q.length co) q.length (q.map U64) 22 1 :: .blk g5 #[.slice Ao q.length co] 58 :: .blk g1 s.cells 32 :: fr)) 6 [1, 0, 2, 3, 4, 5] (by decide) (by decide) rfl
   refine qem (v1 := .string (qaj i)) (v2 := .slice Ar ((secN s i).length) cr) hrec HM (by decide) (by decide) fun a HF => ?_
   refine z7 ?_
   refine fp HF 1 0 [(7, .slice Ar ((secN s i).length) cr)] fun a HF => ?_
   refine qb rfl ?_
   have hql : q.length ≤ 600000 := by rw [hq]; exact qea hsh (by omega)
   have hsl := qhp hsh hi
   refine ⟨(.row (.slice Ar ((secN s i).length) cr) ((secN s i).length) ((secN s i).map U64) 22 1 :: .obj B (.deferred (some [])) :: .row (.slice Ao q.length co) q.length (q.map U64) 22 1 :: .blk g5 #[.slice Ao q.length co] 58 :: .blk g1 s.cells 32 :: fr), HM.picksT (fs' := (.obj lp (.loop (rec .ready none)) :: .row (.slice Ar ((secN s i).length) cr) ((secN s i).length) ((secN s i).map U64) 22 1 :: .obj B (.deferred (some [])) :: .row (.slice Ao q.length co) q.length (q.map U64) 22 1 :: .blk g5 #[.slice Ao q.length co] 58 :: .blk g1 s.cells 32 :: fr)) 6 [0, 1, 2, 3, 4, 5] (by decide) (by decide) rfl, fun w4 HM => ?_⟩
   refine wpIn_block ?_
   refine z7 ?_
   refine fy HF HM 0 rfl rfl rfl (Yl.qf rfl rfl (by kernel_rfl) (fun _ h => h.cell (i := 4) rfl rfl)) fun a HF => ?_
   refine fp HF 1 1 [(18, .slice Ar ((secN s i).length) cr)] fun a HF => ?_
   refine fo HF 2 rfl rfl ?_
   refine qw HF HM (i := 3) rfl za rfl rfl rfl (news := ((secN s i).map U64)) (HM.rd (i := 1) rfl) (zn _) (by omega) (by omega) rfl (by decide) ?_
   clear HF HM; intro a w19 A19 c19 HF HM hc19
   refine fo HF 3 rfl rfl ?_
   refine q4 HF HM (i := 4) rfl rfl rfl rfl (by kernel_rfl) rfl rfl (by simp) ?_
   clear HM; intro w7_3 HM
   refine qb rfl ?_
   have hnA19 : q.length + ((secN s i).length) = (q ++ (secN s i)).length := zd rfl
   replace HM := HM.reRow (i := 3) (ys := (q ++ (secN s i)).map U64) rfl hnA19 (List.map_append.symm)
   rw [hnA19] at hc19
   replace HF := HF.as (t := 19) (u := .slice A19 ((q ++ (secN s i)).length) c19) rfl (by rw [hnA19])
   rw [hnA19] at HM
   refine ⟨(.obj B (.deferred (some [])) :: .row (.slice A19 ((q ++ (secN s i)).length) c19) ((q ++ (secN s i)).length) ((q ++ (secN s i)).map U64) 22 1 :: .blk g5 #[.slice A19 ((q ++ (secN s i)).length) c19] 58 :: .blk g1 s.cells 32 :: fr), HM.picksT (fs' := (.obj lp (.loop (rec .busy none)) :: .obj B (.deferred (some [])) :: .row (.slice A19 ((q ++ (secN s i)).length) c19) ((q ++ (secN s i)).length) ((q ++ (secN s i)).map U64) 22 1 :: .blk g5 #[.slice A19 ((q ++ (secN s i)).length) c19] 58 :: .blk g1 s.cells 32 :: fr)) 6 [0, 2, 3, 4, 5] (by decide) (by decide) rfl, fun w5 HM => ?_⟩
   exact ⟨(.obj lp (.loop (rec .ready none)) :: .obj B (.deferred (some [])) :: .row (.slice A19 ((q ++ (secN s i)).length) c19) ((q ++ (secN s i)).length) ((q ++ (secN s i)).map U64) 22 1 :: .blk g5 #[.slice A19 ((q ++ (secN s i)).length) c19] 58 :: .blk g1 s.cells 32 :: []), HM, rfl, ⟨(q ++ (secN s i)), A19, c19, by rw [hq, qv], hc19, rfl⟩⟩
  refine (qg1 w w1 gv gp lp s hok hf hx hc hsh _ _ hy ⟨[], none, 0, rfl, Nat.le_refl _, rfl⟩ (HM.picks [2, 3, 0, 1, 4, 5, 6] (by decide) rfl)).mono ?_
  rintro r w2 ⟨v, rfl, F2, HM2, ⟨q, Ao, co, hq, hco, rfl⟩⟩
  exact ⟨v, rfl, .inl ⟨_, ⟨q, Ao, co, hq, hco, rfl⟩, HM2⟩⟩
 clear HF HM; rintro B a w6 _ ⟨q, Ao, co, hq, hco, rfl⟩ HF HM
 refine wp_seq (qa ?_)
 refine fy HF HM 0 rfl rfl rfl (Yl.qf rfl rfl (by kernel_rfl) (fun _ h => h.cell (i := 2) rfl rfl)) fun a HF => ?_
 refine fp HF 2 1 [(3, vI 0), (2, .slice Ao q.length co)] fun a HF => ?_
 refine qb rfl (wp_ret ?_)
 refine qj1 HF HM (i := 0) rfl fun a w7 HF HM => ?_
 exact ret2 rfl HF (.tmp HF rfl) (.tmp HF rfl) (qgr (er' := 0) hk0.symm (by rw [qaq hk0, hq]; rfl) (HM.own (i := 1) rfl) hco HM.below)
theorem quy (A : Option Addr) (c : Nat) (l : List Gr) (D : Option Addr) (c2 : Nat) (m : List Gr) (w : World) (hr : Rd w w.heap.size 2 A l.length (l.flatMap grL)) (hr2 : Rd w w.heap.size 2 D m.length (m.flatMap grL)) (hn : l.length ≤ 1000000) (hn2 : m.length ≤ 1000000) :
    Calls Tryz.prog 128 #[.slice A l.length c, .slice D m.length c2] w (Is w (.bool (decide (l = m)))) := by
 refine qg (vs := [.slice A l.length c, .slice D m.length c2]) Tryz.func128 rfl rfl (by kernel_rfl) (σ0 := [(0, .slice A l.length c), (1, .slice D m.length c2)]) rfl ?_
 intro a HF
 have HM := Mem.start w
 refine wp_seq (qa ?_)
 refine fp HF 1 0 [(4, .bool false)] fun a HF => ?_
 refine qb rfl (wp_seq (wp_seq (qa ?_)))
 refine fp HF 1 0 [(6, .slice A l.length c)] fun a HF => ?_
 refine fy HF HM 1 rfl rfl rfl (Yl.len rfl rfl (by kernel_rfl)) fun a HF => ?_
 refine fp HF 1 2 [(8, .slice D m.length c2)] fun a HF => ?_
 refine fy HF HM 3 rfl rfl rfl (Yl.len rfl rfl (by kernel_rfl)) fun a HF => ?_
 refine fp HF 1 4 [(10, .bool ((l.length : Int) != (m.length : Int)))] fun a HF => ?_
 refine qb rfl ?_
 rcases HF.tf 10 rfl with ⟨hb10, HF⟩ | ⟨hb10, HF⟩
 ·
  have hd10 := bne_iff_ne.1 hb10
  refine qd HF rfl (wp_seq (qa ?_))
  refine fp HF 1 0 [(4, .bool false)] fun a HF => ?_
  refine qb rfl (wp_ret ?_)
  exact ret1 rfl HF (.tmp HF rfl) (is_no (fun e => by rw [e] at hd10; exact hd10 rfl) HM.below)
 have hd10 := bne_eq_false_iff_eq.1 hb10
 have hlm : l.length = m.length := by omega
 refine qc HF rfl (wp_skip (wp_seq (wp_seq (qa ?_))))
 refine fp HF 1 0 [(5, vI 0)] fun a HF => ?_
 refine qb rfl (wp_block ?_)
 refine qo (fun mS aS wS => ∃ (k : Nat), (k ≤ l.length) ∧ (∀ i, i < k → l.getD i Gr.zero = m.getD i Gr.zero) ∧ mS = l.length - k ∧ Fr aS 26 [] [(5, vI k), (10, .bool false), (4, .bool false), (0, .slice A l.length c), (1, .slice D m.length c2)] ∧ Mem w wS []) (m := l.length - 0) ⟨0, Nat.zero_le _, z0, rfl, HF.sub (by kernel_rfl), HM.picks [] (by decide) rfl⟩ ?_
 clear HF HM; rintro mS a w_ ⟨k, hk, hu, rfl, HF, HM⟩
 refine wp_seq (wp_seq (qa ?_))
 refine fp HF 2 0 [(12, .slice A l.length c), (11, vI k)] fun a HF => ?_
 refine fy HF HM 2 rfl rfl rfl (Yl.len rfl rfl (by kernel_rfl)) fun a HF => ?_
 refine fp HF 1 3 [(14, .bool (decide ((k : Int) < (l.length : Int))))] fun a HF => ?_
 refine qb rfl ?_
 rcases HF.tf 14 rfl with ⟨hb14, HF⟩ | ⟨hb14, HF⟩
 ·
  have hd14 := of_decide_eq_true hb14
  have hk1 : k < l.length := by omega
  have hk2 : k < m.length := by omega
  obtain ⟨gA, oA, rfl, _⟩ := hr.qp (Nat.lt_of_le_of_lt (Nat.zero_le _) (show k < l.length from hk1)) (by decide)
  obtain ⟨gD, oD, rfl, _⟩ := hr2.qp (Nat.lt_of_le_of_lt (Nat.zero_le _) (show k < m.length from hk2)) (by decide)
  refine qd HF rfl (wp_skip (wp_seq (wp_block (wp_seq ?_))))
  refine zc HM [] [] [] fun HM HS => ?_
  refine ap HF (fun _ => HS) [0, 1, 4, 5] #[true, true, false, false, true, true, false, false, false] [(22, vI k), (21, .slice (some ⟨gD, oD, none⟩) m.length c2), (18, vI k), (17, .slice (some ⟨gA, oA, none⟩) l.length c)] fun a HF => ?_
  refine ay HF HS 2 rfl rfl rfl (v := vP gA (oA + k * 2)) (Yl.ix gA oA k 2 rfl rfl rfl) fun a HF => ?_
  refine ay HF HS 3 rfl rfl rfl (v := .agg ((l.getD k Gr.zero).cells)) (Yl.qr rfl rfl si_gr rfl (fun _ h => (h.old hr).q6 zk ((getD_at Gr.zero hk1)))) fun a HF => ?_
  refine ay HF HS 6 rfl rfl rfl (v := vP gD (oD + k * 2)) (Yl.ix gD oD k 2 rfl rfl rfl) fun a HF => ?_
  refine ay HF HS 7 rfl rfl rfl (v := .agg ((m.getD k Gr.zero).cells)) (Yl.qr rfl rfl si_gr rfl (fun _ h => (h.old hr2).q6 zk ((getD_at Gr.zero hk2)))) fun a HF => ?_
  refine ay HF HS 8 rfl rfl rfl (v := .bool (!(decide ((l.getD k Gr.zero) = (m.getD k Gr.zero))))) (Yl.qch rfl rfl rfl (qez (l.getD k Gr.zero) (m.getD k Gr.zero))) fun a HF => ?_
  refine qq (by kernel_rfl) ?_
  rcases HF.tf 25 rfl with ⟨hb25, HF⟩ | ⟨hb25, HF⟩
  ·
   have hd25 := of_decide_eq_false ((Bool.not_eq_true' _).mp hb25)
   refine qd HF rfl (wp_seq (qa ?_))
   refine fp HF 1 0 [(4, .bool false)] fun a HF => ?_
   refine qb rfl (wp_ret ?_)
   exact ret1 rfl HF (.tmp HF rfl) (is_no (fun e => hd25 (by rw [e])) HM.below)
  have hd25 := of_decide_eq_true ((Bool.not_eq_false' _).mp hb25)
  refine qc HF rfl (wp_skip (qa ?_))
  refine fp HF 2 0 [(16, vI (IntKind.i64.wrap ((k : Int) + 1)))] fun a HF => ?_
  replace HF := HF.sp 16 (vI (k + 1 : Nat)) rfl (qi (by omega) (by omega))
  refine fp HF 1 2 [(5, vI (k + 1 : Nat))] fun a HF => ?_
  refine qb rfl ?_
  exact ⟨_, (by omega), k + 1, by omega, z1 hu (hd25), rfl, HF.sub (by kernel_rfl), HM.picks [] (by decide) rfl⟩
 have hd14 := of_decide_eq_false hb14
 refine qc HF rfl (wp_exit (wp_seq (qa ?_)))
 refine fp HF 1 0 [(4, .bool true)] fun a HF => ?_
 refine qb rfl (wp_ret ?_)
 exact ret1 rfl HF (.tmp HF rfl) (qba (z5 Gr.zero hlm (fun i hi => hu i (by omega))) HM.below)
theorem qmi (A : Option Addr) (c : Nat) (l : List Int) (D : Option Addr) (c2 : Nat) (m : List Int) (w : World) (hr : Rd w w.heap.size 1 A l.length (l.map I64i)) (hr2 : Rd w w.heap.size 1 D m.length (m.map I64i)) (hn : l.length ≤ 1000000) (hn2 : m.length ≤ 1000000) :
    Calls Tryz.prog 67 #[.slice A l.length c, .slice D m.length c2] w (Is w (.bool (decide (l = m)))) := by
 refine qg (vs := [.slice A l.length c, .slice D m.length c2]) Tryz.func67 rfl rfl (by kernel_rfl) (σ0 := [(0, .slice A l.length c), (1, .slice D m.length c2)]) rfl ?_
 intro a HF
 have HM := Mem.start w
 refine wp_seq (qa ?_)
 refine fp HF 1 0 [(4, .bool false)] fun a HF => ?_
 refine qb rfl (wp_seq (wp_seq (qa ?_)))
 refine fp HF 1 0 [(6, .slice A l.length c)] fun a HF => ?_
 refine fy HF HM 1 rfl rfl rfl (Yl.len rfl rfl (by kernel_rfl)) fun a HF => ?_
 refine fp HF 1 2 [(8, .slice D m.length c2)] fun a HF => ?_
 refine fy HF HM 3 rfl rfl rfl (Yl.len rfl rfl (by kernel_rfl)) fun a HF => ?_
 refine fp HF 1 4 [(10, .bool ((l.length : Int) != (m.length : Int)))] fun a HF => ?_
 refine qb rfl ?_
 rcases HF.tf 10 rfl with ⟨hb10, HF⟩ | ⟨hb10, HF⟩
 ·
  have hd10 := bne_iff_ne.1 hb10
  refine qd HF rfl (wp_seq (qa ?_))
  refine fp HF 1 0 [(4, .bool false)] fun a HF => ?_
  refine qb rfl (wp_ret ?_)
  exact ret1 rfl HF (.tmp HF rfl) (is_no (fun e => by rw [e] at hd10; exact hd10 rfl) HM.below)
 have hd10 := bne_eq_false_iff_eq.1 hb10
 have hlm : l.length = m.length := by omega
 refine qc HF rfl (wp_skip (wp_seq (wp_seq (qa ?_))))
 refine fp HF 1 0 [(5, vI 0)] fun a HF => ?_
 refine qb rfl (wp_block ?_)
 refine qo (fun mS aS wS => ∃ (k : Nat), (k ≤ l.length) ∧ (∀ i, i < k → l.getD i 0 = m.getD i 0) ∧ mS = l.length - k ∧ Fr aS 26 [] [(5, vI k), (10, .bool false), (4, .bool false), (0, .slice A l.length c), (1, .slice D m.length c2)] ∧ Mem w wS []) (m := l.length - 0) ⟨0, Nat.zero_le _, z0, rfl, HF.sub (by kernel_rfl), HM.picks [] (by decide) rfl⟩ ?_
 clear HF HM; rintro mS a w_ ⟨k, hk, hu, rfl, HF, HM⟩
 refine wp_seq (wp_seq (qa ?_))
 refine fp HF 2 0 [(12, .slice A l.length c), (11, vI k)] fun a HF => ?_
 refine fy HF HM 2 rfl rfl rfl (Yl.len rfl rfl (by kernel_rfl)) fun a HF => ?_
 refine fp HF 1 3 [(14, .bool (decide ((k : Int) < (l.length : Int))))] fun a HF => ?_
 refine qb rfl ?_
 rcases HF.tf 14 rfl with ⟨hb14, HF⟩ | ⟨hb14, HF⟩
 ·
  have hd14 := of_decide_eq_true hb14
  have hk1 : k < l.length := by omega
  have hk2 : k < m.length := by omega
  obtain ⟨gA, oA, rfl, _⟩ := hr.qp (Nat.lt_of_le_of_lt (Nat.zero_le _) (show k < l.length from hk1)) (by decide)
  obtain ⟨gD, oD, rfl, _⟩ := hr2.qp (Nat.lt_of_le_of_lt (Nat.zero_le _) (show k < m.length from hk2)) (by decide)
  refine qd HF rfl (wp_skip (wp_seq (wp_block (wp_seq ?_))))
  refine zc HM [] [] [] fun HM HS => ?_
  refine ap HF (fun _ => HS) [0, 1, 4, 5] #[true, true, false, false, true, true, false, false, false] [(22, vI k), (21, .slice (some ⟨gD, oD, none⟩) m.length c2), (18, vI k), (17, .slice (some ⟨gA, oA, none⟩) l.length c)] fun a HF => ?_
  refine ay HF HS 2 rfl rfl rfl (v := vP gA (oA + k * 1)) (Yl.ix gA oA k 1 rfl rfl rfl) fun a HF => ?_
  refine ay HF HS 3 rfl rfl rfl (v := vI (l.getD k 0)) (Yl.qf rfl rfl (by kernel_rfl) (fun _ h => (h.old hr).q7 (k := k) (qz (F := I64i) (k := k) (x := (l.getD k 0)) ((getD_at 0 hk1))))) fun a HF => ?_
  refine ay HF HS 6 rfl rfl rfl (v := vP gD (oD + k * 1)) (Yl.ix gD oD k 1 rfl rfl rfl) fun a HF => ?_
  refine ay HF HS 7 rfl rfl rfl (v := vI (m.getD k 0)) (Yl.qf rfl rfl (by kernel_rfl) (fun _ h => (h.old hr2).q7 (k := k) (qz (F := I64i) (k := k) (x := (m.getD k 0)) ((getD_at 0 hk2))))) fun a HF => ?_
  refine ap HF (fun _ => HS) [8] #[true, true, true, true, true, true, true, true, true] [(25, .bool (((l.getD k 0) : Int) != ((m.getD k 0) : Int)))] fun a HF => ?_
  refine qq (by kernel_rfl) ?_
  rcases HF.tf 25 rfl with ⟨hb25, HF⟩ | ⟨hb25, HF⟩
  ·
   have hd25 := bne_iff_ne.1 hb25
   refine qd HF rfl (wp_seq (qa ?_))
   refine fp HF 1 0 [(4, .bool false)] fun a HF => ?_
   refine qb rfl (wp_ret ?_)
   exact ret1 rfl HF (.tmp HF rfl) (is_no (fun e => hd25 (by rw [e])) HM.below)
  have hd25 := bne_eq_false_iff_eq.1 hb25
  refine qc HF rfl (wp_skip (qa ?_))
  refine fp HF 2 0 [(16, vI (IntKind.i64.wrap ((k : Int) + 1)))] fun a HF => ?_
  replace HF := HF.sp 16 (vI (k + 1 : Nat)) rfl (qi (by omega) (by omega))
  refine fp HF 1 2 [(5, vI (k + 1 : Nat))] fun a HF => ?_
  refine qb rfl ?_
  exact ⟨_, (by omega), k + 1, by omega, z1 hu (hd25), rfl, HF.sub (by kernel_rfl), HM.picks [] (by decide) rfl⟩
 have hd14 := of_decide_eq_false hb14
 refine qc HF rfl (wp_exit (wp_seq (qa ?_)))
 refine fp HF 1 0 [(4, .bool true)] fun a HF => ?_
 refine qb rfl (wp_ret ?_)
 exact ret1 rfl HF (.tmp HF rfl) (qba (z5 0 hlm (fun i hi => hu i (by omega))) HM.below)
theorem quz (A : Option Addr) (c : Nat) (l : List Tk) (D : Option Addr) (c2 : Nat) (m : List Tk) (w : World) (hr : Rd w w.heap.size 8 A l.length (l.flatMap tkL)) (hr2 : Rd w w.heap.size 8 D m.length (m.flatMap tkL)) (hn : l.length ≤ 1000000) (hn2 : m.length ≤ 1000000) :
    Calls Tryz.prog 97 #[.slice A l.length c, .slice D m.length c2] w (Is w (.bool (decide (l = m)))) := by
 refine qg (vs := [.slice A l.length c, .slice D m.length c2]) Tryz.func97 rfl rfl (by kernel_rfl) (σ0 := [(0, .slice A l.length c), (1, .slice D m.length c2)]) rfl ?_
 intro a HF
 have HM := Mem.start w
 refine wp_seq (qa ?_)
 refine fp HF 1 0 [(4, .bool false)] fun a HF => ?_
 refine qb rfl (wp_seq (wp_seq (qa ?_)))
 refine fp HF 1 0 [(6, .slice A l.length c)] fun a HF => ?_
 refine fy HF HM 1 rfl rfl rfl (Yl.len rfl rfl (by kernel_rfl)) fun a HF => ?_
 refine fp HF 1 2 [(8, .slice D m.length c2)] fun a HF => ?_
 refine fy HF HM 3 rfl rfl rfl (Yl.len rfl rfl (by kernel_rfl)) fun a HF => ?_
 refine fp HF 1 4 [(10, .bool ((l.length : Int) != (m.length : Int)))] fun a HF => ?_
 refine qb rfl ?_
 rcases HF.tf 10 rfl with ⟨hb10, HF⟩ | ⟨hb10, HF⟩
 ·
  have hd10 := bne_iff_ne.1 hb10
  refine qd HF rfl (wp_seq (qa ?_))
  refine fp HF 1 0 [(4, .bool false)] fun a HF => ?_
  refine qb rfl (wp_ret ?_)
  exact ret1 rfl HF (.tmp HF rfl) (is_no (fun e => by rw [e] at hd10; exact hd10 rfl) HM.below)
 have hd10 := bne_eq_false_iff_eq.1 hb10
 have hlm : l.length = m.length := by omega
 refine qc HF rfl (wp_skip (wp_seq (wp_seq (qa ?_))))
 refine fp HF 1 0 [(5, vI 0)] fun a HF => ?_
 refine qb rfl (wp_block ?_)
 refine qo (fun mS aS wS => ∃ (k : Nat), (k ≤ l.length) ∧ (∀ i, i < k → l.getD i Tk.zero = m.getD i Tk.zero) ∧ mS = l.length - k ∧ Fr aS 26 [] [(5, vI k), (10, .bool false), (4, .bool false), (0, .slice A l.length c), (1, .slice D m.length c2)] ∧ Mem w wS []) (m := l.length - 0) ⟨0, Nat.zero_le _, z0, rfl, HF.sub (by kernel_rfl), HM.picks [] (by decide) rfl⟩ ?_
 clear HF HM; rintro mS a w_ ⟨k, hk, hu, rfl, HF, HM⟩
 refine wp_seq (wp_seq (qa ?_))
 refine fp HF 2 0 [(12, .slice A l.length c), (11, vI k)] fun a HF => ?_
 refine fy HF HM 2 rfl rfl rfl (Yl.len rfl rfl (by kernel_rfl)) fun a HF => ?_
 refine fp HF 1 3 [(14, .bool (decide ((k : Int) < (l.length : Int))))] fun a HF => ?_
 refine qb rfl ?_
 rcases HF.tf 14 rfl with ⟨hb14, HF⟩ | ⟨hb14, HF⟩
 ·
  have hd14 := of_decide_eq_true hb14
  have hk1 : k < l.length := by omega
  have hk2 : k < m.length := by omega
  obtain ⟨gA, oA, rfl, _⟩ := hr.qp (Nat.lt_of_le_of_lt (Nat.zero_le _) (show k < l.length from hk1)) (by decide)
  obtain ⟨gD, oD, rfl, _⟩ := hr2.qp (Nat.lt_of_le_of_lt (Nat.zero_le _) (show k < m.length from hk2)) (by decide)
  refine qd HF rfl (wp_skip (wp_seq (wp_block (wp_seq ?_))))
  refine zc HM [] [] [] fun HM HS => ?_
  refine ap HF (fun _ => HS) [0, 1, 4, 5] #[true, true, false, false, true, true, false, false, false] [(22, vI k), (21, .slice (some ⟨gD, oD, none⟩) m.length c2), (18, vI k), (17, .slice (some ⟨gA, oA, none⟩) l.length c)] fun a HF => ?_
  refine ay HF HS 2 rfl rfl rfl (v := vP gA (oA + k * 8)) (Yl.ix gA oA k 8 rfl rfl rfl) fun a HF => ?_
  refine ay HF HS 3 rfl rfl rfl (v := .agg ((l.getD k Tk.zero).cells)) (Yl.qr rfl rfl si_tk rfl (fun _ h => (h.old hr).q6 zf ((getD_at Tk.zero hk1)))) fun a HF => ?_
  refine ay HF HS 6 rfl rfl rfl (v := vP gD (oD + k * 8)) (Yl.ix gD oD k 8 rfl rfl rfl) fun a HF => ?_
  refine ay HF HS 7 rfl rfl rfl (v := .agg ((m.getD k Tk.zero).cells)) (Yl.qr rfl rfl si_tk rfl (fun _ h => (h.old hr2).q6 zf ((getD_at Tk.zero hk2)))) fun a HF => ?_
  refine ay HF HS 8 rfl rfl rfl (v := .bool (!(decide ((l.getD k Tk.zero) = (m.getD k Tk.zero))))) (Yl.qch rfl rfl rfl (qht (l.getD k Tk.zero) (m.getD k Tk.zero))) fun a HF => ?_
  refine qq (by kernel_rfl) ?_
  rcases HF.tf 25 rfl with ⟨hb25, HF⟩ | ⟨hb25, HF⟩
  ·
   have hd25 := of_decide_eq_false ((Bool.not_eq_true' _).mp hb25)
   refine qd HF rfl (wp_seq (qa ?_))
   refine fp HF 1 0 [(4, .bool false)] fun a HF => ?_
   refine qb rfl (wp_ret ?_)
   exact ret1 rfl HF (.tmp HF rfl) (is_no (fun e => hd25 (by rw [e])) HM.below)
  have hd25 := of_decide_eq_true ((Bool.not_eq_false' _).mp hb25)
  refine qc HF rfl (wp_skip (qa ?_))
  refine fp HF 2 0 [(16, vI (IntKind.i64.wrap ((k : Int) + 1)))] fun a HF => ?_
  replace HF := HF.sp 16 (vI (k + 1 : Nat)) rfl (qi (by omega) (by omega))
  refine fp HF 1 2 [(5, vI (k + 1 : Nat))] fun a HF => ?_
  refine qb rfl ?_
  exact ⟨_, (by omega), k + 1, by omega, z1 hu (hd25), rfl, HF.sub (by kernel_rfl), HM.picks [] (by decide) rfl⟩
 have hd14 := of_decide_eq_false hb14
 refine qc HF rfl (wp_exit (wp_seq (qa ?_)))
 refine fp HF 1 0 [(4, .bool true)] fun a HF => ?_
 refine qb rfl (wp_ret ?_)
 exact ret1 rfl HF (.tmp HF rfl) (qba (z5 Tk.zero hlm (fun i hi => hu i (by omega))) HM.below)
theorem qu0 (A : Option Addr) (c : Nat) (l : List Sp) (D : Option Addr) (c2 : Nat) (m : List Sp) (w : World) (hr : Rd w w.heap.size 3 A l.length (l.flatMap spL)) (hr2 : Rd w w.heap.size 3 D m.length (m.flatMap spL)) (hn : l.length ≤ 1000000) (hn2 : m.length ≤ 1000000) :
    Calls Tryz.prog 98 #[.slice A l.length c, .slice D m.length c2] w (Is w (.bool (decide (l = m)))) := by
 refine qg (vs := [.slice A l.length c, .slice D m.length c2]) Tryz.func98 rfl rfl (by kernel_rfl) (σ0 := [(0, .slice A l.length c), (1, .slice D m.length c2)]) rfl ?_
 intro a HF
 have HM := Mem.start w
 refine wp_seq (qa ?_)
 refine fp HF 1 0 [(4, .bool false)] fun a HF => ?_
 refine qb rfl (wp_seq (wp_seq (qa ?_)))
 refine fp HF 1 0 [(6, .slice A l.length c)] fun a HF => ?_
 refine fy HF HM 1 rfl rfl rfl (Yl.len rfl rfl (by kernel_rfl)) fun a HF => ?_
 refine fp HF 1 2 [(8, .slice D m.length c2)] fun a HF => ?_
 refine fy HF HM 3 rfl rfl rfl (Yl.len rfl rfl (by kernel_rfl)) fun a HF => ?_
 refine fp HF 1 4 [(10, .bool ((l.length : Int) != (m.length : Int)))] fun a HF => ?_
 refine qb rfl ?_
 rcases HF.tf 10 rfl with ⟨hb10, HF⟩ | ⟨hb10, HF⟩
 ·
  have hd10 := bne_iff_ne.1 hb10
  refine qd HF rfl (wp_seq (qa ?_))
  refine fp HF 1 0 [(4, .bool false)] fun a HF => ?_
  refine qb rfl (wp_ret ?_)
  exact ret1 rfl HF (.tmp HF rfl) (is_no (fun e => by rw [e] at hd10; exact hd10 rfl) HM.below)
 have hd10 := bne_eq_false_iff_eq.1 hb10
 have hlm : l.length = m.length := by omega
 refine qc HF rfl (wp_skip (wp_seq (wp_seq (qa ?_))))
 refine fp HF 1 0 [(5, vI 0)] fun a HF => ?_
 refine qb rfl (wp_block ?_)
 refine qo (fun mS aS wS => ∃ (k : Nat), (k ≤ l.length) ∧ (∀ i, i < k → l.getD i Sp.zero = m.getD i Sp.zero) ∧ mS = l.length - k ∧ Fr aS 26 [] [(5, vI k), (10, .bool false), (4, .bool false), (0, .slice A l.length c), (1, .slice D m.length c2)] ∧ Mem w wS []) (m := l.length - 0) ⟨0, Nat.zero_le _, z0, rfl, HF.sub (by kernel_rfl), HM.picks [] (by decide) rfl⟩ ?_
 clear HF HM; rintro mS a w_ ⟨k, hk, hu, rfl, HF, HM⟩
 refine wp_seq (wp_seq (qa ?_))
 refine fp HF 2 0 [(12, .slice A l.length c), (11, vI k)] fun a HF => ?_
 refine fy HF HM 2 rfl rfl rfl (Yl.len rfl rfl (by kernel_rfl)) fun a HF => ?_
 refine fp HF 1 3 [(14, .bool (decide ((k : Int) < (l.length : Int))))] fun a HF => ?_
 refine qb rfl ?_
 rcases HF.tf 14 rfl with ⟨hb14, HF⟩ | ⟨hb14, HF⟩
 ·
  have hd14 := of_decide_eq_true hb14
  have hk1 : k < l.length := by omega
  have hk2 : k < m.length := by omega
  obtain ⟨gA, oA, rfl, _⟩ := hr.qp (Nat.lt_of_le_of_lt (Nat.zero_le _) (show k < l.length from hk1)) (by decide)
  obtain ⟨gD, oD, rfl, _⟩ := hr2.qp (Nat.lt_of_le_of_lt (Nat.zero_le _) (show k < m.length from hk2)) (by decide)
  refine qd HF rfl (wp_skip (wp_seq (wp_block (wp_seq ?_))))
  refine zc HM [] [] [] fun HM HS => ?_
  refine ap HF (fun _ => HS) [0, 1, 4, 5] #[true, true, false, false, true, true, false, false, false] [(22, vI k), (21, .slice (some ⟨gD, oD, none⟩) m.length c2), (18, vI k), (17, .slice (some ⟨gA, oA, none⟩) l.length c)] fun a HF => ?_
  refine ay HF HS 2 rfl rfl rfl (v := vP gA (oA + k * 3)) (Yl.ix gA oA k 3 rfl rfl rfl) fun a HF => ?_
  refine ay HF HS 3 rfl rfl rfl (v := .agg ((l.getD k Sp.zero).cells)) (Yl.qr rfl rfl si_sp rfl (fun _ h => (h.old hr).q6 zr ((getD_at Sp.zero hk1)))) fun a HF => ?_
  refine ay HF HS 6 rfl rfl rfl (v := vP gD (oD + k * 3)) (Yl.ix gD oD k 3 rfl rfl rfl) fun a HF => ?_
  refine ay HF HS 7 rfl rfl rfl (v := .agg ((m.getD k Sp.zero).cells)) (Yl.qr rfl rfl si_sp rfl (fun _ h => (h.old hr2).q6 zr ((getD_at Sp.zero hk2)))) fun a HF => ?_
  refine ay HF HS 8 rfl rfl rfl (v := .bool (!(decide ((l.getD k Sp.zero) = (m.getD k Sp.zero))))) (Yl.qch rfl rfl rfl (qhu (l.getD k Sp.zero) (m.getD k Sp.zero))) fun a HF => ?_
  refine qq (by kernel_rfl) ?_
  rcases HF.tf 25 rfl with ⟨hb25, HF⟩ | ⟨hb25, HF⟩
  ·
   have hd25 := of_decide_eq_false ((Bool.not_eq_true' _).mp hb25)
   refine qd HF rfl (wp_seq (qa ?_))
   refine fp HF 1 0 [(4, .bool false)] fun a HF => ?_
   refine qb rfl (wp_ret ?_)
   exact ret1 rfl HF (.tmp HF rfl) (is_no (fun e => hd25 (by rw [e])) HM.below)
  have hd25 := of_decide_eq_true ((Bool.not_eq_false' _).mp hb25)
  refine qc HF rfl (wp_skip (qa ?_))
  refine fp HF 2 0 [(16, vI (IntKind.i64.wrap ((k : Int) + 1)))] fun a HF => ?_
  replace HF := HF.sp 16 (vI (k + 1 : Nat)) rfl (qi (by omega) (by omega))
  refine fp HF 1 2 [(5, vI (k + 1 : Nat))] fun a HF => ?_
  refine qb rfl ?_
  exact ⟨_, (by omega), k + 1, by omega, z1 hu (hd25), rfl, HF.sub (by kernel_rfl), HM.picks [] (by decide) rfl⟩
 have hd14 := of_decide_eq_false hb14
 refine qc HF rfl (wp_exit (wp_seq (qa ?_)))
 refine fp HF 1 0 [(4, .bool true)] fun a HF => ?_
 refine qb rfl (wp_ret ?_)
 exact ret1 rfl HF (.tmp HF rfl) (qba (z5 Sp.zero hlm (fun i hi => hu i (by omega))) HM.below)
theorem qq0 (A : Option Addr) (c : Nat) (l : List Nat) (D : Option Addr) (c2 : Nat) (m : List Nat) (w : World) (hr : Rd w w.heap.size 1 A l.length (l.map U64)) (hr2 : Rd w w.heap.size 1 D m.length (m.map U64)) (hn : l.length ≤ 1000000) (hn2 : m.length ≤ 1000000) :
    Calls Tryz.prog 30 #[.slice A l.length c, .slice D m.length c2] w (Is w (.bool (decide (l = m)))) := by
 refine qg (vs := [.slice A l.length c, .slice D m.length c2]) Tryz.func30 rfl rfl (by kernel_rfl) (σ0 := [(0, .slice A l.length c), (1, .slice D m.length c2)]) rfl ?_
 intro a HF
 have HM := Mem.start w
 refine wp_seq (qa ?_)
 refine fp HF 1 0 [(4, .bool false)] fun a HF => ?_
 refine qb rfl (wp_seq (wp_seq (qa ?_)))
 refine fp HF 1 0 [(6, .slice A l.length c)] fun a HF => ?_
 refine fy HF HM 1 rfl rfl rfl (Yl.len rfl rfl (by kernel_rfl)) fun a HF => ?_
 refine fp HF 1 2 [(8, .slice D m.length c2)] fun a HF => ?_
 refine fy HF HM 3 rfl rfl rfl (Yl.len rfl rfl (by kernel_rfl)) fun a HF => ?_
 refine fp HF 1 4 [(10, .bool ((l.length : Int) != (m.length : Int)))] fun a HF => ?_
 refine qb rfl ?_
 rcases HF.tf 10 rfl with ⟨hb10, HF⟩ | ⟨hb10, HF⟩
 ·
  have hd10 := bne_iff_ne.1 hb10
  refine qd HF rfl (wp_seq (qa ?_))
  refine fp HF 1 0 [(4, .bool false)] fun a HF => ?_
  refine qb rfl (wp_ret ?_)
  exact ret1 rfl HF (.tmp HF rfl) (is_no (fun e => by rw [e] at hd10; exact hd10 rfl) HM.below)
 have hd10 := bne_eq_false_iff_eq.1 hb10
 have hlm : l.length = m.length := by omega
 refine qc HF rfl (wp_skip (wp_seq (wp_seq (qa ?_))))
 refine fp HF 1 0 [(5, vI 0)] fun a HF => ?_
 refine qb rfl (wp_block ?_)
 refine qo (fun mS aS wS => ∃ (k : Nat), (k ≤ l.length) ∧ (∀ i, i < k → l.getD i 0 = m.getD i 0) ∧ mS = l.length - k ∧ Fr aS 26 [] [(5, vI k), (10, .bool false), (4, .bool false), (0, .slice A l.length c), (1, .slice D m.length c2)] ∧ Mem w wS []) (m := l.length - 0) ⟨0, Nat.zero_le _, z0, rfl, HF.sub (by kernel_rfl), HM.picks [] (by decide) rfl⟩ ?_
 clear HF HM; rintro mS a w_ ⟨k, hk, hu, rfl, HF, HM⟩
 refine wp_seq (wp_seq (qa ?_))
 refine fp HF 2 0 [(12, .slice A l.length c), (11, vI k)] fun a HF => ?_
 refine fy HF HM 2 rfl rfl rfl (Yl.len rfl rfl (by kernel_rfl)) fun a HF => ?_
 refine fp HF 1 3 [(14, .bool (decide ((k : Int) < (l.length : Int))))] fun a HF => ?_
 refine qb rfl ?_
 rcases HF.tf 14 rfl with ⟨hb14, HF⟩ | ⟨hb14, HF⟩
 ·
  have hd14 := of_decide_eq_true hb14
  have hk1 : k < l.length := by omega
  have hk2 : k < m.length := by omega
  obtain ⟨gA, oA, rfl, _⟩ := hr.qp (Nat.lt_of_le_of_lt (Nat.zero_le _) (show k < l.length from hk1)) (by decide)
  obtain ⟨gD, oD, rfl, _⟩ := hr2.qp (Nat.lt_of_le_of_lt (Nat.zero_le _) (show k < m.length from hk2)) (by decide)
  refine qd HF rfl (wp_skip (wp_seq (wp_block (wp_seq ?_))))
  refine zc HM [] [] [] fun HM HS => ?_
  refine ap HF (fun _ => HS) [0, 1, 4, 5] #[true, true, false, false, true, true, false, false, false] [(22, vI k), (21, .slice (some ⟨gD, oD, none⟩) m.length c2), (18, vI k), (17, .slice (some ⟨gA, oA, none⟩) l.length c)] fun a HF => ?_
  refine ay HF HS 2 rfl rfl rfl (v := vP gA (oA + k * 1)) (Yl.ix gA oA k 1 rfl rfl rfl) fun a HF => ?_
  refine ay HF HS 3 rfl rfl rfl (v := vQ (l.getD k 0)) (Yl.qf rfl rfl (by kernel_rfl) (fun _ h => (h.old hr).q7 (k := k) (qz (F := U64) (k := k) (x := (l.getD k 0)) ((getD_at 0 hk1))))) fun a HF => ?_
  refine ay HF HS 6 rfl rfl rfl (v := vP gD (oD + k * 1)) (Yl.ix gD oD k 1 rfl rfl rfl) fun a HF => ?_
  refine ay HF HS 7 rfl rfl rfl (v := vQ (m.getD k 0)) (Yl.qf rfl rfl (by kernel_rfl) (fun _ h => (h.old hr2).q7 (k := k) (qz (F := U64) (k := k) (x := (m.getD k 0)) ((getD_at 0 hk2))))) fun a HF => ?_
  refine ap HF (fun _ => HS) [8] #[true, true, true, true, true, true, true, true, true] [(25, .bool (((l.getD k 0) : Int) != ((m.getD k 0) : Int)))] fun a HF => ?_
  refine qq (by kernel_rfl) ?_
  rcases HF.tf 25 rfl with ⟨hb25, HF⟩ | ⟨hb25, HF⟩
  ·
   have hd25 := bne_iff_ne.1 hb25
   refine qd HF rfl (wp_seq (qa ?_))
   refine fp HF 1 0 [(4, .bool false)] fun a HF => ?_
   refine qb rfl (wp_ret ?_)
   exact ret1 rfl HF (.tmp HF rfl) (is_no (fun e => hd25 (by rw [e])) HM.below)
  have hd25 := bne_eq_false_iff_eq.1 hb25
  refine qc HF rfl (wp_skip (qa ?_))
  refine fp HF 2 0 [(16, vI (IntKind.i64.wrap ((k : Int) + 1)))] fun a HF => ?_
  replace HF := HF.sp 16 (vI (k + 1 : Nat)) rfl (qi (by omega) (by omega))
  refine fp HF 1 2 [(5, vI (k + 1 : Nat))] fun a HF => ?_
  refine qb rfl ?_
  exact ⟨_, (by omega), k + 1, by omega, z1 hu (by omega), rfl, HF.sub (by kernel_rfl), HM.picks [] (by decide) rfl⟩
 have hd14 := of_decide_eq_false hb14
 refine qc HF rfl (wp_exit (wp_seq (qa ?_)))
 refine fp HF 1 0 [(4, .bool true)] fun a HF => ?_
 refine qb rfl (wp_ret ?_)
 exact ret1 rfl HF (.tmp HF rfl) (qba (z5 0 hlm (fun i hi => hu i (by omega))) HM.below)
theorem qmj (A : Option Addr) (c : Nat) (l : List Int) (D : Option Addr) (c2 : Nat) (m : List Int) (w : World) (hr : Rd w w.heap.size 1 A l.length (l.map I64i)) (hr2 : Rd w w.heap.size 1 D m.length (m.map I64i)) (hn : l.length ≤ 1000000) (hn2 : m.length ≤ 1000000) :
    Calls Tryz.prog 65 #[.slice A l.length c, .slice D m.length c2] w (Is w (.bool (decide (l = m)))) := by
 refine qg (vs := [.slice A l.length c, .slice D m.length c2]) Tryz.func65 rfl rfl (by kernel_rfl) (σ0 := [(0, .slice A l.length c), (1, .slice D m.length c2)]) rfl ?_
 intro a HF
 have HM := Mem.start w
 refine wp_seq (qa ?_)
 refine fp HF 1 0 [(4, .bool false)] fun a HF => ?_
 refine qb rfl (wp_seq (wp_seq (qa ?_)))
 refine fp HF 1 0 [(6, .slice A l.length c)] fun a HF => ?_
 refine fy HF HM 1 rfl rfl rfl (Yl.len rfl rfl (by kernel_rfl)) fun a HF => ?_
 refine fp HF 1 2 [(8, .slice D m.length c2)] fun a HF => ?_
 refine fy HF HM 3 rfl rfl rfl (Yl.len rfl rfl (by kernel_rfl)) fun a HF => ?_
 refine fp HF 1 4 [(10, .bool ((l.length : Int) != (m.length : Int)))] fun a HF => ?_
 refine qb rfl ?_
 rcases HF.tf 10 rfl with ⟨hb10, HF⟩ | ⟨hb10, HF⟩
 ·
  have hd10 := bne_iff_ne.1 hb10
  refine qd HF rfl (wp_seq (qa ?_))
  refine fp HF 1 0 [(4, .bool false)] fun a HF => ?_
  refine qb rfl (wp_ret ?_)
  exact ret1 rfl HF (.tmp HF rfl) (is_no (fun e => by rw [e] at hd10; exact hd10 rfl) HM.below)
 have hd10 := bne_eq_false_iff_eq.1 hb10
 have hlm : l.length = m.length := by omega
 refine qc HF rfl (wp_skip (wp_seq (wp_seq (qa ?_))))
 refine fp HF 1 0 [(5, vI 0)] fun a HF => ?_
 refine qb rfl (wp_block ?_)
 refine qo (fun mS aS wS => ∃ (k : Nat), (k ≤ l.length) ∧ (∀ i, i < k → l.getD i 0 = m.getD i 0) ∧ mS = l.length - k ∧ Fr aS 26 [] [(5, vI k), (10, .bool false), (4, .bool false), (0, .slice A l.length c), (1, .slice D m.length c2)] ∧ Mem w wS []) (m := l.length - 0) ⟨0, Nat.zero_le _, z0, rfl, HF.sub (by kernel_rfl), HM.picks [] (by decide) rfl⟩ ?_
 clear HF HM; rintro mS a w_ ⟨k, hk, hu, rfl, HF, HM⟩
 refine wp_seq (wp_seq (qa ?_))
 refine fp HF 2 0 [(12, .slice A l.length c), (11, vI k)] fun a HF => ?_
 refine fy HF HM 2 rfl rfl rfl (Yl.len rfl rfl (by kernel_rfl)) fun a HF => ?_
 refine fp HF 1 3 [(14, .bool (decide ((k : Int) < (l.length : Int))))] fun a HF => ?_
 refine qb rfl ?_
 rcases HF.tf 14 rfl with ⟨hb14, HF⟩ | ⟨hb14, HF⟩
 ·
  have hd14 := of_decide_eq_true hb14
  have hk1 : k < l.length := by omega
  have hk2 : k < m.length := by omega
  obtain ⟨gA, oA, rfl, _⟩ := hr.qp (Nat.lt_of_le_of_lt (Nat.zero_le _) (show k < l.length from hk1)) (by decide)
  obtain ⟨gD, oD, rfl, _⟩ := hr2.qp (Nat.lt_of_le_of_lt (Nat.zero_le _) (show k < m.length from hk2)) (by decide)
  refine qd HF rfl (wp_skip (wp_seq (wp_block (wp_seq ?_))))
  refine zc HM [] [] [] fun HM HS => ?_
  refine ap HF (fun _ => HS) [0, 1, 4, 5] #[true, true, false, false, true, true, false, false, false] [(22, vI k), (21, .slice (some ⟨gD, oD, none⟩) m.length c2), (18, vI k), (17, .slice (some ⟨gA, oA, none⟩) l.length c)] fun a HF => ?_
  refine ay HF HS 2 rfl rfl rfl (v := vP gA (oA + k * 1)) (Yl.ix gA oA k 1 rfl rfl rfl) fun a HF => ?_
  refine ay HF HS 3 rfl rfl rfl (v := vI (l.getD k 0)) (Yl.qf rfl rfl (by kernel_rfl) (fun _ h => (h.old hr).q7 (k := k) (qz (F := I64i) (k := k) (x := (l.getD k 0)) ((getD_at 0 hk1))))) fun a HF => ?_
  refine ay HF HS 6 rfl rfl rfl (v := vP gD (oD + k * 1)) (Yl.ix gD oD k 1 rfl rfl rfl) fun a HF => ?_
  refine ay HF HS 7 rfl rfl rfl (v := vI (m.getD k 0)) (Yl.qf rfl rfl (by kernel_rfl) (fun _ h => (h.old hr2).q7 (k := k) (qz (F := I64i) (k := k) (x := (m.getD k 0)) ((getD_at 0 hk2))))) fun a HF => ?_
  refine ap HF (fun _ => HS) [8] #[true, true, true, true, true, true, true, true, true] [(25, .bool (((l.getD k 0) : Int) != ((m.getD k 0) : Int)))] fun a HF => ?_
  refine qq (by kernel_rfl) ?_
  rcases HF.tf 25 rfl with ⟨hb25, HF⟩ | ⟨hb25, HF⟩
  ·
   have hd25 := bne_iff_ne.1 hb25
   refine qd HF rfl (wp_seq (qa ?_))
   refine fp HF 1 0 [(4, .bool false)] fun a HF => ?_
   refine qb rfl (wp_ret ?_)
   exact ret1 rfl HF (.tmp HF rfl) (is_no (fun e => hd25 (by rw [e])) HM.below)
  have hd25 := bne_eq_false_iff_eq.1 hb25
  refine qc HF rfl (wp_skip (qa ?_))
  refine fp HF 2 0 [(16, vI (IntKind.i64.wrap ((k : Int) + 1)))] fun a HF => ?_
  replace HF := HF.sp 16 (vI (k + 1 : Nat)) rfl (qi (by omega) (by omega))
  refine fp HF 1 2 [(5, vI (k + 1 : Nat))] fun a HF => ?_
  refine qb rfl ?_
  exact ⟨_, (by omega), k + 1, by omega, z1 hu (hd25), rfl, HF.sub (by kernel_rfl), HM.picks [] (by decide) rfl⟩
 have hd14 := of_decide_eq_false hb14
 refine qc HF rfl (wp_exit (wp_seq (qa ?_)))
 refine fp HF 1 0 [(4, .bool true)] fun a HF => ?_
 refine qb rfl (wp_ret ?_)
 exact ret1 rfl HF (.tmp HF rfl) (qba (z5 0 hlm (fun i hi => hu i (by omega))) HM.below)
theorem qky (A : Option Addr) (c : Nat) (l : List Gr) (D : Option Addr) (c2 : Nat) (m : List Gr) (w : World) (hr : Rd w w.heap.size 2 A l.length (l.flatMap grL)) (hr2 : Rd w w.heap.size 2 D m.length (m.flatMap grL)) (hn : l.length ≤ 1000000) (hn2 : m.length ≤ 1000000) :
    Calls Tryz.prog 96 #[.slice A l.length c, .slice D m.length c2] w (Is w (.bool (decide (l = m)))) := by
 refine qg (vs := [.slice A l.length c, .slice D m.length c2]) Tryz.func96 rfl rfl (by kernel_rfl) (σ0 := [(0, .slice A l.length c), (1, .slice D m.length c2)]) rfl ?_
 intro a HF
 have HM := Mem.start w
 refine wp_seq (qa ?_)
 refine fp HF 1 0 [(4, .bool false)] fun a HF => ?_
 refine qb rfl (wp_seq (qa ?_))
 refine fp HF 2 0 [(6, .slice D m.length c2), (5, .slice A l.length c)] fun a HF => ?_
 refine fo HF 2 rfl rfl ?_
 refine e_cl HF [.slice A l.length c, .slice D m.length c2] rfl rfl (quy A c l D c2 m _ (HM.old hr) (HM.old hr2) hn hn2) ?_
 rintro _ w7 ⟨rfl, hbw⟩
 refine ⟨_, rfl, ?_⟩
 replace HM := HM.call hbw
 clear HF; intro a HF
 refine fp HF 1 3 [(4, .bool (decide (l = m)))] fun a HF => ?_
 refine qb rfl (wp_ret ?_)
 exact ret1 rfl HF (.tmp HF rfl) (⟨rfl, HM.below⟩)
theorem qnk (A : Option Addr) (c : Nat) (l : List Tk) (D : Option Addr) (c2 : Nat) (m : List Tk) (w : World) (hr : Rd w w.heap.size 8 A l.length (l.flatMap tkL)) (hr2 : Rd w w.heap.size 8 D m.length (m.flatMap tkL)) (hn : l.length ≤ 1000000) (hn2 : m.length ≤ 1000000) :
    Calls Tryz.prog 68 #[.slice A l.length c, .slice D m.length c2] w (Is w (.bool (decide (l = m)))) := by
 refine qg (vs := [.slice A l.length c, .slice D m.length c2]) Tryz.func68 rfl rfl (by kernel_rfl) (σ0 := [(0, .slice A l.length c), (1, .slice D m.length c2)]) rfl ?_
 intro a HF
 have HM := Mem.start w
 refine wp_seq (qa ?_)
 refine fp HF 1 0 [(4, .bool false)] fun a HF => ?_
 refine qb rfl (wp_seq (qa ?_))
 refine fp HF 2 0 [(6, .slice D m.length c2), (5, .slice A l.length c)] fun a HF => ?_
 refine fo HF 2 rfl rfl ?_
 refine e_cl HF [.slice A l.length c, .slice D m.length c2] rfl rfl (quz A c l D c2 m _ (HM.old hr) (HM.old hr2) hn hn2) ?_
 rintro _ w7 ⟨rfl, hbw⟩
 refine ⟨_, rfl, ?_⟩
 replace HM := HM.call hbw
 clear HF; intro a HF
 refine fp HF 1 3 [(4, .bool (decide (l = m)))] fun a HF => ?_
 refine qb rfl (wp_ret ?_)
 exact ret1 rfl HF (.tmp HF rfl) (⟨rfl, HM.below⟩)
theorem qnl (A : Option Addr) (c : Nat) (l : List Sp) (D : Option Addr) (c2 : Nat) (m : List Sp) (w : World) (hr : Rd w w.heap.size 3 A l.length (l.flatMap spL)) (hr2 : Rd w w.heap.size 3 D m.length (m.flatMap spL)) (hn : l.length ≤ 1000000) (hn2 : m.length ≤ 1000000) :
    Calls Tryz.prog 69 #[.slice A l.length c, .slice D m.length c2] w (Is w (.bool (decide (l = m)))) := by
 refine qg (vs := [.slice A l.length c, .slice D m.length c2]) Tryz.func69 rfl rfl (by kernel_rfl) (σ0 := [(0, .slice A l.length c), (1, .slice D m.length c2)]) rfl ?_
 intro a HF
 have HM := Mem.start w
 refine wp_seq (qa ?_)
 refine fp HF 1 0 [(4, .bool false)] fun a HF => ?_
 refine qb rfl (wp_seq (qa ?_))
 refine fp HF 2 0 [(6, .slice D m.length c2), (5, .slice A l.length c)] fun a HF => ?_
 refine fo HF 2 rfl rfl ?_
 refine e_cl HF [.slice A l.length c, .slice D m.length c2] rfl rfl (qu0 A c l D c2 m _ (HM.old hr) (HM.old hr2) hn hn2) ?_
 rintro _ w7 ⟨rfl, hbw⟩
 refine ⟨_, rfl, ?_⟩
 replace HM := HM.call hbw
 clear HF; intro a HF
 refine fp HF 1 3 [(4, .bool (decide (l = m)))] fun a HF => ?_
 refine qb rfl (wp_ret ?_)
 exact ret1 rfl HF (.tmp HF rfl) (⟨rfl, HM.below⟩)
theorem qkz (s z : Stm) (w : World) (hx : StRd w s) (hz : StRd w z) (hf : StFew s) (hg : StFew z) :
    Calls Tryz.prog 66 #[.agg #[.int .i64 s.cpus, .int .u64 (s.credit : Int), .slice s.gA s.gs.length s.gc], .agg #[.int .i64 z.cpus, .int .u64 (z.credit : Int), .slice z.gA z.gs.length z.gc]] w (Is w (.bool (decide (CfgEq s z)))) := by
 refine qg (vs := [.agg #[vI s.cpus, vQ s.credit, .slice s.gA s.gs.length s.gc], .agg #[vI z.cpus, vQ z.credit, .slice z.gA z.gs.length z.gc]]) Tryz.func66 rfl rfl (by kernel_rfl) (σ0 := [(0, .agg #[vI s.cpus, vQ s.credit, .slice s.gA s.gs.length s.gc]), (1, .agg #[vI z.cpus, vQ z.credit, .slice z.gA z.gs.length z.gc])]) rfl ?_
 intro a HF
 have HM := Mem.start w
 refine wp_seq (qa ?_)
 refine fo HF 0 rfl rfl ?_
 refine e_box HF HM (cs := #[vI s.cpus, vQ s.credit, .slice s.gA s.gs.length s.gc]) rfl rfl rfl rfl (by decide) ?_
 clear HF HM; intro a w2 g2 HF HM
 refine fo HF 1 rfl rfl ?_
 refine e_box HF HM (cs := #[vI z.cpus, vQ z.credit, .slice z.gA z.gs.length z.gc]) rfl rfl rfl rfl (by decide) ?_
 clear HF HM; intro a w3 g3 HF HM
 refine fp HF 1 2 [(4, .bool false)] fun a HF => ?_
 refine qb rfl (wp_seq (qa ?_))
 refine fp HF 1 0 [(5, vP g2 0)] fun a HF => ?_
 refine fy HF HM 1 rfl rfl rfl (Yl.qf rfl rfl (by kernel_rfl) (fun _ h => h.cell (i := 1) rfl rfl)) fun a HF => ?_
 refine fp HF 1 2 [(7, vP g3 0)] fun a HF => ?_
 refine fy HF HM 3 rfl rfl rfl (Yl.qf rfl rfl (by kernel_rfl) (fun _ h => h.cell (i := 0) rfl rfl)) fun a HF => ?_
 refine fp HF 2 4 [(10, .bool ((s.cpus : Int) == (z.cpus : Int)))] fun a HF => ?_
 rcases HF.tf 10 rfl with ⟨hb10, HF⟩ | ⟨hb10, HF⟩
 ·
  have hd10 := eq_of_beq hb10
  refine fp HF 1 6 [(11, vP g2 1)] fun a HF => ?_
  refine fy HF HM 7 rfl rfl rfl (Yl.qf rfl rfl (by kernel_rfl) (fun _ h => h.cell (i := 1) rfl rfl)) fun a HF => ?_
  refine fp HF 1 8 [(13, vP g3 1)] fun a HF => ?_
  refine fy HF HM 9 rfl rfl rfl (Yl.qf rfl rfl (by kernel_rfl) (fun _ h => h.cell (i := 0) rfl rfl)) fun a HF => ?_
  refine fp HF 3 10 [(17, .bool ((s.credit : Int) == (z.credit : Int)))] fun a HF => ?_
  rcases HF.tf 17 rfl with ⟨hb17, HF⟩ | ⟨hb17, HF⟩
  ·
   have hd17 := eq_of_beq hb17
   refine fp HF 1 13 [(18, vP g2 2)] fun a HF => ?_
   refine fy HF HM 14 rfl rfl rfl (Yl.qf rfl rfl (by kernel_rfl) (fun _ h => h.cell (i := 1) rfl rfl)) fun a HF => ?_
   refine fp HF 1 15 [(20, vP g3 2)] fun a HF => ?_
   refine fy HF HM 16 rfl rfl rfl (Yl.qf rfl rfl (by kernel_rfl) (fun _ h => h.cell (i := 0) rfl rfl)) fun a HF => ?_
   refine fo HF 17 rfl rfl ?_
   refine e_cl HF [.slice s.gA s.gs.length s.gc, .slice z.gA z.gs.length z.gc] rfl rfl (qky s.gA s.gc s.gs z.gA z.gc z.gs _ (HM.old hx.g) (HM.old hz.g) hf.g hg.g) ?_
   rintro _ w22 ⟨rfl, hbw⟩
   refine ⟨_, rfl, ?_⟩
   replace HM := HM.call hbw
   clear HF; intro a HF
   refine fp HF 2 18 [(4, .bool (decide (s.gs = z.gs)))] fun a HF => ?_
   refine qb rfl (wp_ret ?_)
   exact ret1 rfl HF (.tmp HF rfl) (qep (p := CfgEq s z) ⟨fun e => ⟨hd10, by omega, e⟩, fun e => e.2.2⟩ HM.below)
  have hd17 := ne_of_beq_false hb17
  refine fp HF 7 13 [(4, .bool false)] fun a HF => ?_
  refine qb rfl (wp_ret ?_)
  exact ret1 rfl HF (.tmp HF rfl) (is_no (p := CfgEq s z) (fun e => hd17 (by rw [e.2.1])) HM.below)
 have hd10 := ne_of_beq_false hb10
 refine fp HF 14 6 [(4, .bool false)] fun a HF => ?_
 refine qb rfl (wp_ret ?_)
 exact ret1 rfl HF (.tmp HF rfl) (is_no (p := CfgEq s z) (fun e => hd10 e.1) HM.below)
theorem qnm (s z : Stm) (w : World) (hx : StRd w s) (hz : StRd w z) (hf : StFew s) (hg : StFew z) :
    Calls Tryz.prog 33 #[.agg s.cells, .agg z.cells] w (Is w (.bool (decide (StaEq s z)))) := by
 have hfs_ := hf.s
 refine qg (vs := [.agg s.cells, .agg z.cells]) Tryz.func33 rfl rfl (by kernel_rfl) (σ0 := [(0, .agg s.cells), (1, .agg z.cells)]) rfl ?_
 intro a HF
 have HM := Mem.start w
 refine wp_seq (qa ?_)
 refine fo HF 0 rfl rfl ?_
 refine e_box HF HM (cs := s.cells) rfl rfl rfl rfl (by decide) ?_
 clear HF HM; intro a w2 g2 HF HM
 refine fo HF 1 rfl rfl ?_
 refine e_box HF HM (cs := z.cells) rfl rfl rfl rfl (by decide) ?_
 clear HF HM; intro a w3 g3 HF HM
 refine fp HF 1 2 [(4, .bool false)] fun a HF => ?_
 refine qb rfl (wp_seq (wp_seq (qa ?_)))
 refine fp HF 1 0 [(6, vP g2 0)] fun a HF => ?_
 refine fy HF HM 1 rfl rfl rfl (v := .agg #[vI s.cpus, vQ s.credit, .slice s.gA s.gs.length s.gc]) (Yl.qr rfl rfl qas rfl (fun _ h => h.sub (i := 1) rfl 0 rfl)) fun a HF => ?_
 refine fp HF 1 2 [(8, vP g3 0)] fun a HF => ?_
 refine fy HF HM 3 rfl rfl rfl (v := .agg #[vI z.cpus, vQ z.credit, .slice z.gA z.gs.length z.gc]) (Yl.qr rfl rfl qas rfl (fun _ h => h.sub (i := 0) rfl 0 rfl)) fun a HF => ?_
 refine fo HF 4 rfl rfl ?_
 refine e_is HF HM [.agg #[vI s.cpus, vQ s.credit, .slice s.gA s.gs.length s.gc], .agg #[vI z.cpus, vQ z.credit, .slice z.gA z.gs.length z.gc]] (.bool (decide (CfgEq s z))) rfl rfl (qkz s z _ (hx.old HM) (hz.old HM) hf hg) fun w10 hbw HM a HF => ?_
 refine fp HF 2 5 [(12, .bool (!(decide (CfgEq s z))))] fun a HF => ?_
 rcases HF.tf 12 rfl with ⟨hb12, HF⟩ | ⟨hb12, HF⟩
 ·
  have hd12 := of_decide_eq_false ((Bool.not_eq_true' _).mp hb12)
  refine fp HF 32 7 [(44, .bool true)] fun a HF => ?_
  refine qb rfl (qd HF rfl (wp_seq (qa ?_)))
  refine fp HF 1 0 [(4, .bool false)] fun a HF => ?_
  refine qb rfl (wp_ret ?_)
  exact ret1 rfl HF (.tmp HF rfl) (is_no (p := StaEq s z) (fun e => by simp [e.1] at hb12) HM.below)
 have hd12 := of_decide_eq_true ((Bool.not_eq_false' _).mp hb12)
 refine fp HF 1 7 [(13, vP g2 3)] fun a HF => ?_
 refine fy HF HM 8 rfl rfl rfl (v := .slice s.lA s.cl.length s.lc) (Yl.qf rfl rfl (by kernel_rfl) (fun _ h => h.cell (i := 1) rfl (rfl))) fun a HF => ?_
 refine fp HF 1 9 [(15, vP g3 3)] fun a HF => ?_
 refine fy HF HM 10 rfl rfl rfl (v := .slice z.lA z.cl.length z.lc) (Yl.qf rfl rfl (by kernel_rfl) (fun _ h => h.cell (i := 0) rfl (rfl))) fun a HF => ?_
 refine fo HF 11 rfl rfl ?_
 refine e_cl HF [.slice s.lA s.cl.length s.lc, .slice z.lA z.cl.length z.lc] rfl rfl (qmi s.lA s.lc s.cl z.lA z.lc z.cl _ (HM.old hx.l) (HM.old hz.l) hf.l hg.l) ?_
 rintro _ w17 ⟨rfl, hbw⟩
 refine ⟨_, rfl, ?_⟩
 replace HM := HM.call hbw
 clear HF; intro a HF
 refine fp HF 3 12 [(20, .bool (!(decide (s.cl = z.cl))))] fun a HF => ?_
 rcases HF.tf 20 rfl with ⟨hb20, HF⟩ | ⟨hb20, HF⟩
 ·
  have hd20 := of_decide_eq_false ((Bool.not_eq_true' _).mp hb20)
  refine fp HF 24 15 [(44, .bool true)] fun a HF => ?_
  refine qb rfl (qd HF rfl (wp_seq (qa ?_)))
  refine fp HF 1 0 [(4, .bool false)] fun a HF => ?_
  refine qb rfl (wp_ret ?_)
  exact ret1 rfl HF (.tmp HF rfl) (is_no (p := StaEq s z) (fun e => by simp [e.2.1] at hb20) HM.below)
 have hd20 := of_decide_eq_true ((Bool.not_eq_false' _).mp hb20)
 refine fp HF 1 15 [(21, vP g2 4)] fun a HF => ?_
 refine fy HF HM 16 rfl rfl rfl (v := .slice s.uA s.cu.length s.uc) (Yl.qf rfl rfl (by kernel_rfl) (fun _ h => h.cell (i := 1) rfl (rfl))) fun a HF => ?_
 refine fp HF 1 17 [(23, vP g3 4)] fun a HF => ?_
 refine fy HF HM 18 rfl rfl rfl (v := .slice z.uA z.cu.length z.uc) (Yl.qf rfl rfl (by kernel_rfl) (fun _ h => h.cell (i := 0) rfl (rfl))) fun a HF => ?_
 refine fo HF 19 rfl rfl ?_
 refine e_cl HF [.slice s.uA s.cu.length s.uc, .slice z.uA z.cu.length z.uc] rfl rfl (qmi s.uA s.uc s.cu z.uA z.uc z.cu _ (HM.old hx.u) (HM.old hz.u) hf.u hg.u) ?_
 rintro _ w25 ⟨rfl, hbw⟩
 refine ⟨_, rfl, ?_⟩
 replace HM := HM.call hbw
 clear HF; intro a HF
 refine fp HF 3 20 [(28, .bool (!(decide (s.cu = z.cu))))] fun a HF => ?_
 rcases HF.tf 28 rfl with ⟨hb28, HF⟩ | ⟨hb28, HF⟩
 ·
  have hd28 := of_decide_eq_false ((Bool.not_eq_true' _).mp hb28)
  refine fp HF 16 23 [(44, .bool true)] fun a HF => ?_
  refine qb rfl (qd HF rfl (wp_seq (qa ?_)))
  refine fp HF 1 0 [(4, .bool false)] fun a HF => ?_
  refine qb rfl (wp_ret ?_)
  exact ret1 rfl HF (.tmp HF rfl) (is_no (p := StaEq s z) (fun e => by simp [e.2.2.1] at hb28) HM.below)
 have hd28 := of_decide_eq_true ((Bool.not_eq_false' _).mp hb28)
 refine fp HF 1 23 [(29, vP g2 5)] fun a HF => ?_
 refine fy HF HM 24 rfl rfl rfl (v := .slice s.tA s.ts.length s.tc) (Yl.qf rfl rfl (by kernel_rfl) (fun _ h => h.cell (i := 1) rfl (rfl))) fun a HF => ?_
 refine fp HF 1 25 [(31, vP g3 5)] fun a HF => ?_
 refine fy HF HM 26 rfl rfl rfl (v := .slice z.tA z.ts.length z.tc) (Yl.qf rfl rfl (by kernel_rfl) (fun _ h => h.cell (i := 0) rfl (rfl))) fun a HF => ?_
 refine fo HF 27 rfl rfl ?_
 refine e_cl HF [.slice s.tA s.ts.length s.tc, .slice z.tA z.ts.length z.tc] rfl rfl (qnk s.tA s.tc s.ts z.tA z.tc z.ts _ (HM.old hx.t) (HM.old hz.t) hf.t hg.t) ?_
 rintro _ w33 ⟨rfl, hbw⟩
 refine ⟨_, rfl, ?_⟩
 replace HM := HM.call hbw
 clear HF; intro a HF
 refine fp HF 3 28 [(36, .bool (!(decide (s.ts = z.ts))))] fun a HF => ?_
 rcases HF.tf 36 rfl with ⟨hb36, HF⟩ | ⟨hb36, HF⟩
 ·
  have hd36 := of_decide_eq_false ((Bool.not_eq_true' _).mp hb36)
  refine fp HF 8 31 [(44, .bool true)] fun a HF => ?_
  refine qb rfl (qd HF rfl (wp_seq (qa ?_)))
  refine fp HF 1 0 [(4, .bool false)] fun a HF => ?_
  refine qb rfl (wp_ret ?_)
  exact ret1 rfl HF (.tmp HF rfl) (is_no (p := StaEq s z) (fun e => by simp [e.2.2.2.1] at hb36) HM.below)
 have hd36 := of_decide_eq_true ((Bool.not_eq_false' _).mp hb36)
 refine fp HF 1 31 [(37, vP g2 6)] fun a HF => ?_
 refine fy HF HM 32 rfl rfl rfl (v := .slice s.sA s.rs.length s.sc) (Yl.qf rfl rfl (by kernel_rfl) (fun _ h => h.cell (i := 1) rfl (rfl))) fun a HF => ?_
 refine fy HF HM 33 rfl rfl rfl (Yl.len rfl rfl (by kernel_rfl)) fun a HF => ?_
 refine fp HF 1 34 [(40, vP g3 6)] fun a HF => ?_
 refine fy HF HM 35 rfl rfl rfl (v := .slice z.sA z.rs.length z.sc) (Yl.qf rfl rfl (by kernel_rfl) (fun _ h => h.cell (i := 0) rfl (rfl))) fun a HF => ?_
 refine fy HF HM 36 rfl rfl rfl (Yl.len rfl rfl (by kernel_rfl)) fun a HF => ?_
 refine fp HF 2 37 [(44, .bool ((s.rs.length : Int) != (z.rs.length : Int)))] fun a HF => ?_
 refine qb rfl ?_
 rcases HF.tf 44 rfl with ⟨hb44, HF⟩ | ⟨hb44, HF⟩
 ·
  have hd44 := bne_iff_ne.1 hb44
  refine qd HF rfl (wp_seq (qa ?_))
  refine fp HF 1 0 [(4, .bool false)] fun a HF => ?_
  refine qb rfl (wp_ret ?_)
  exact ret1 rfl HF (.tmp HF rfl) (is_no (p := StaEq s z) (fun e => by have := qcx e.2.2.2.2; omega) HM.below)
 have hd44 := bne_eq_false_iff_eq.1 hb44
 have hlm : s.rs.length = z.rs.length := by omega
 refine qc HF rfl (wp_skip (wp_seq (wp_seq (qa ?_))))
 refine fp HF 1 0 [(5, vI 0)] fun a HF => ?_
 refine qb rfl (wp_block ?_)
 refine qo (fun mS aS wS => ∃ (k : Nat), (k ≤ s.rs.length) ∧ (∀ i, i < k → (s.rs.getD i Rw.zero).l = (z.rs.getD i Rw.zero).l) ∧ mS = s.rs.length - k ∧ Fr aS 64 [] [(5, vI k), (44, .bool false), (4, .bool false), (3, vP g3 0), (2, vP g2 0)] ∧ Mem w wS [.blk g3 z.cells 30, .blk g2 s.cells 30]) (m := s.rs.length - 0) ⟨0, Nat.zero_le _, z0, rfl, HF.sub (by kernel_rfl), HM.picks [0, 1] (by decide) rfl⟩ ?_
 clear HF HM; rintro mS a w_ ⟨k, hk, hu, rfl, HF, HM⟩
 refine wp_seq (wp_seq (qa ?_))
 refine fp HF 2 0 [(46, vP g2 6), (45, vI k)] fun a HF => ?_
 refine fy HF HM 2 rfl rfl rfl (v := .slice s.sA s.rs.length s.sc) (Yl.qf rfl rfl (by kernel_rfl) (fun _ h => h.cell (i := 1) rfl (rfl))) fun a HF => ?_
 refine fy HF HM 3 rfl rfl rfl (Yl.len rfl rfl (by kernel_rfl)) fun a HF => ?_
 refine fp HF 1 4 [(49, .bool (decide ((k : Int) < (s.rs.length : Int))))] fun a HF => ?_
 refine qb rfl ?_
 rcases HF.tf 49 rfl with ⟨hb49, HF⟩ | ⟨hb49, HF⟩
 ·
  have hd49 := of_decide_eq_true hb49
  have hk1 : k < s.rs.length := by omega
  have hk2 : k < z.rs.length := by omega
  obtain ⟨x, hx_⟩ : ∃ q, s.rs.getD k Rw.zero = q := ⟨_, rfl⟩
  obtain ⟨y, hy_⟩ : ∃ q, z.rs.getD k Rw.zero = q := ⟨_, rfl⟩
  have hxr : Rd w w.heap.size 3 x.A x.l.length (x.l.flatMap spL) := by rw [← hx_]; exact hx.row hk1
  have hyr : Rd w w.heap.size 3 y.A y.l.length (y.l.flatMap spL) := by rw [← hy_]; exact hz.row hk2
  have hxl : x.l.length ≤ 1000000 := by rw [← hx_]; exact hf.r _ (q5 Rw.zero hk1)
  have hyl : y.l.length ≤ 1000000 := by rw [← hy_]; exact hg.r _ (q5 Rw.zero hk2)
  obtain ⟨gq1, oq1, hq1, _⟩ := Rd.qp hx.s (Nat.lt_of_le_of_lt (Nat.zero_le _) (show k < s.rs.length from hk1)) (by decide)
  have hrq1 := hx.s; rw [hq1] at hrq1
  obtain ⟨gq2, oq2, hq2, _⟩ := Rd.qp hz.s (Nat.lt_of_le_of_lt (Nat.zero_le _) (show k < z.rs.length from hk2)) (by decide)
  have hrq2 := hz.s; rw [hq2] at hrq2
  refine qd HF rfl (wp_skip (wp_seq (wp_block (wp_seq ?_))))
  refine zc HM [.blk g3 z.cells 30, .blk g2 s.cells 30] [0, 1] [] fun HM HS => ?_
  refine ap HF (fun _ => HS) [0, 2, 5, 7] #[true, false, true, false, false, true, false, true, false, false, false, false] [(59, vI k), (57, vP g3 6), (54, vI k), (52, vP g2 6)] fun a HF => ?_
  refine ay HF HS 1 rfl rfl rfl (v := .slice s.sA s.rs.length s.sc) (Yl.qf rfl rfl (by kernel_rfl) (fun _ h => h.cell (i := 1) rfl (rfl))) fun a HF => ?_
  replace HF := HF.as (t := 53) (u := .slice (some ⟨gq1, oq1, none⟩) s.rs.length s.sc) rfl (by rw [hq1]; try rfl)
  refine ay HF HS 3 rfl rfl rfl (v := vP gq1 (oq1 + k * 1)) (Yl.ix gq1 oq1 k 1 rfl rfl rfl) fun a HF => ?_
  refine ay HF HS 4 rfl rfl rfl (v := .slice ((s.rs.getD k Rw.zero).A) ((s.rs.getD k Rw.zero).l.length) ((s.rs.getD k Rw.zero).c)) (Yl.qf rfl rfl (by kernel_rfl) (fun _ h => (h.old hrq1).q7 (k := k) (qz (F := Rw.val) (k := k) (x := (s.rs.getD k Rw.zero)) ((getD_at Rw.zero hk1))))) fun a HF => ?_
  replace HF := HF.sp 56 (.slice x.A x.l.length x.c) rfl (by rw [hx_])
  refine ay HF HS 6 rfl rfl rfl (v := .slice z.sA z.rs.length z.sc) (Yl.qf rfl rfl (by kernel_rfl) (fun _ h => h.cell (i := 0) rfl (rfl))) fun a HF => ?_
  replace HF := HF.as (t := 58) (u := .slice (some ⟨gq2, oq2, none⟩) z.rs.length z.sc) rfl (by rw [hq2]; try rfl)
  refine ay HF HS 8 rfl rfl rfl (v := vP gq2 (oq2 + k * 1)) (Yl.ix gq2 oq2 k 1 rfl rfl rfl) fun a HF => ?_
  refine ay HF HS 9 rfl rfl rfl (v := .slice ((z.rs.getD k Rw.zero).A) ((z.rs.getD k Rw.zero).l.length) ((z.rs.getD k Rw.zero).c)) (Yl.qf rfl rfl (by kernel_rfl) (fun _ h => (h.old hrq2).q7 (k := k) (qz (F := Rw.val) (k := k) (x := (z.rs.getD k Rw.zero)) ((getD_at Rw.zero hk2))))) fun a HF => ?_
  replace HF := HF.sp 61 (.slice y.A y.l.length y.c) rfl (by rw [hy_])
  refine qm [10] (by kernel_rfl) rfl ?_
  refine all_cons ?_ all_nil
  refine qk HF (i := 10) rfl rfl ?_
  refine e_cl HF [.slice x.A x.l.length x.c, .slice y.A y.l.length y.c] rfl rfl (qnl x.A x.c x.l y.A y.c y.l _ (HM.old hxr) (HM.old hyr) hxl hyl) ?_
  rintro _ w62 ⟨rfl, hbw⟩
  refine ⟨_, rfl, ?_⟩
  replace HM := HM.call hbw
  clear HF; intro a HF
  refine keepS (HM.picks [0, 1] (by decide) rfl) (fun HS => ?_)
  refine ap HF (fun _ => HS) [11] #[true, true, true, true, true, true, true, true, true, true, true, true] [(63, .bool (!(decide (x.l = y.l))))] fun a HF => ?_
  refine qq (by kernel_rfl) ?_
  rcases HF.tf 63 rfl with ⟨hb63, HF⟩ | ⟨hb63, HF⟩
  ·
   have hd63 := of_decide_eq_false ((Bool.not_eq_true' _).mp hb63)
   refine qd HF rfl (wp_seq (qa ?_))
   refine fp HF 1 0 [(4, .bool false)] fun a HF => ?_
   refine qb rfl (wp_ret ?_)
   exact ret1 rfl HF (.tmp HF rfl) (is_no (p := StaEq s z) (fun e => qdq hk1 hk2 (by rw [hx_, hy_]; simpa using hb63) e.2.2.2.2) HM.below)
  have hd63 := of_decide_eq_true ((Bool.not_eq_false' _).mp hb63)
  refine qc HF rfl (wp_skip (qa ?_))
  refine fp HF 2 0 [(51, vI (IntKind.i64.wrap ((k : Int) + 1)))] fun a HF => ?_
  replace HF := HF.sp 51 (vI (k + 1 : Nat)) rfl (qi (by omega) (by omega))
  refine fp HF 1 2 [(5, vI (k + 1 : Nat))] fun a HF => ?_
  refine qb rfl ?_
  exact ⟨_, (by omega), k + 1, by omega, z1 (f := fun i => (s.rs.getD i Rw.zero).l) (g := fun i => (z.rs.getD i Rw.zero).l) hu (by rw [hx_, hy_]; simpa using hb63), rfl, HF.sub (by kernel_rfl), HM.picks [0, 1] (by decide) rfl⟩
 have hd49 := of_decide_eq_false hb49
 refine qc HF rfl (wp_exit (wp_seq (qa ?_)))
 refine fp HF 1 0 [(4, .bool true)] fun a HF => ?_
 refine qb rfl (wp_ret ?_)
 exact ret1 rfl HF (.tmp HF rfl) (qba (p := StaEq s z) ⟨by simpa using hb12, by simpa using hb20, by simpa using hb28, by simpa using hb36, qfr hlm (fun i hi => hu i (by omega))⟩ HM.below)
theorem qjq (s z : Snm) (w : World) (hx : StRd w s.st) (hz : StRd w z.st) (hf : StFew s.st) (hg : StFew z.st) :
    Calls Tryz.prog 32 #[.agg s.cells, .agg z.cells] w (Is w (.bool (decide (SnEq s z)))) := by
 have hfs_ := hf.s; have hfg_ := hf.g; have hft_ := hf.t
 refine qg (vs := [.agg s.cells, .agg z.cells]) Tryz.func32 rfl rfl (by kernel_rfl) (σ0 := [(0, .agg s.cells), (1, .agg z.cells)]) rfl ?_
 intro a HF
 have HM := Mem.start w
 refine wp_seq (qa ?_)
 refine fo HF 0 rfl rfl ?_
 refine e_box HF HM (cs := s.cells) rfl rfl rfl rfl (by decide) ?_
 clear HF HM; intro a w2 g2 HF HM
 refine fo HF 1 rfl rfl ?_
 refine e_box HF HM (cs := z.cells) rfl rfl rfl rfl (by decide) ?_
 clear HF HM; intro a w3 g3 HF HM
 refine fp HF 1 2 [(4, .bool false)] fun a HF => ?_
 refine qb rfl ?_
 refine qbe (fun aS wS => ∃ (g5 : Nat) (g6 : Nat), Fr aS 169 [] [(6, vP g6 0), (5, vP g5 0), (4, .bool false), (3, vP g3 0), (2, vP g2 0)] ∧ Mem w wS [.blk g6 z.st.cells 30, .blk g5 s.st.cells 30, .blk g3 z.cells 56, .blk g2 s.cells 56]) ?_ ?_
 ·
  refine zc HM [.blk g3 z.cells 56, .blk g2 s.cells 56] [0, 1] [7] fun HM HS => ?_
  refine ap HF (fun _ => HS) [0, 2] #[true, false, true, false, false, false, false, false] [(13, vP g3 1), (11, vP g2 1)] fun a HF => ?_
  refine ay HF HS 1 rfl rfl rfl (v := .agg #[vI s.st.cpus, vQ s.st.credit, .slice s.st.gA s.st.gs.length s.st.gc, .slice s.st.lA s.st.cl.length s.st.lc, .slice s.st.uA s.st.cu.length s.st.uc, .slice s.st.tA s.st.ts.length s.st.tc, .slice s.st.sA s.st.rs.length s.st.sc]) (Yl.qr rfl rfl si_st rfl (fun _ h => h.sub (i := 1) rfl 1 rfl)) fun a HF => ?_
  replace HF := HF.sp 12 (.agg s.st.cells) rfl (rfl)
  refine ay HF HS 3 rfl rfl rfl (v := .agg #[vI z.st.cpus, vQ z.st.credit, .slice z.st.gA z.st.gs.length z.st.gc, .slice z.st.lA z.st.cl.length z.st.lc, .slice z.st.uA z.st.cu.length z.st.uc, .slice z.st.tA z.st.ts.length z.st.tc, .slice z.st.sA z.st.rs.length z.st.sc]) (Yl.qr rfl rfl si_st rfl (fun _ h => h.sub (i := 0) rfl 1 rfl)) fun a HF => ?_
  replace HF := HF.sp 14 (.agg z.st.cells) rfl (rfl)
  refine qm [4, 5] (by kernel_rfl) rfl ?_
  refine all_cons ?_ ?_
  ·refine qk HF (i := 4) rfl rfl ?_
   refine qs HF HM (cs := #[vI 0, vQ 0, .slice none 0 0, .slice none 0 0, .slice none 0 0, .slice none 0 0, .slice none 0 0]) rfl (by kernel_rfl) rfl (by decide) ?_
   clear HF HM; intro a w5 g5 HF HM
   refine keepS (HM.picks [1, 2] (by decide) rfl) (fun HS => ?_)
   refine qm [5] (by kernel_rfl) rfl ?_
   refine all_cons ?_ all_nil
   refine qk HF (i := 5) rfl rfl ?_
   refine qs HF HM (cs := #[vI 0, vQ 0, .slice none 0 0, .slice none 0 0, .slice none 0 0, .slice none 0 0, .slice none 0 0]) rfl (by kernel_rfl) rfl (by decide) ?_
   clear HF HM; intro a w6 g6 HF HM
   refine keepS (HM.picks [2, 3] (by decide) rfl) (fun HS => ?_)
   refine qm [6] (by kernel_rfl) rfl ?_
   refine all_cons ?_ all_nil
   refine qk HF (i := 6) rfl rfl ?_
   refine e_sa HF HM 1 rfl rfl rfl rfl rfl si_st rfl rfl (qb6 s.st) ?_
   clear HM; intro w1_6 HM
   refine keepS (HM.picks [2, 3] (by decide) rfl) (fun HS => ?_)
   refine qm [7] (by kernel_rfl) rfl ?_
   refine all_cons ?_ all_nil
   refine qk HF (i := 7) rfl rfl ?_
   refine e_sa HF HM 0 rfl rfl rfl rfl rfl si_st rfl rfl (qb6 z.st) ?_
   clear HM; intro w1_7 HM
   refine noS (by kernel_rfl) ?_
   refine qq (by kernel_rfl) ?_
   exact ⟨g5, g6, HF.sub (by kernel_rfl), HM.picks [0, 1, 2, 3] (by decide) rfl⟩
  refine all_cons ?_ all_nil
  refine qk HF (i := 5) rfl rfl ?_
  refine qs HF HM (cs := #[vI 0, vQ 0, .slice none 0 0, .slice none 0 0, .slice none 0 0, .slice none 0 0, .slice none 0 0]) rfl (by kernel_rfl) rfl (by decide) ?_
  clear HF HM; intro a w6 g6 HF HM
  refine keepS (HM.picks [1, 2] (by decide) rfl) (fun HS => ?_)
  refine qm [4] (by kernel_rfl) rfl ?_
  refine all_cons ?_ all_nil
  refine qk HF (i := 4) rfl rfl ?_
  refine qs HF HM (cs := #[vI 0, vQ 0, .slice none 0 0, .slice none 0 0, .slice none 0 0, .slice none 0 0, .slice none 0 0]) rfl (by kernel_rfl) rfl (by decide) ?_
  clear HF HM; intro a w5 g5 HF HM
  refine keepS (HM.picks [2, 3] (by decide) rfl) (fun HS => ?_)
  refine qm [6] (by kernel_rfl) rfl ?_
  refine all_cons ?_ all_nil
  refine qk HF (i := 6) rfl rfl ?_
  refine e_sa HF HM 0 rfl rfl rfl rfl rfl si_st rfl rfl (qb6 s.st) ?_
  clear HM; intro w1_6 HM
  refine keepS (HM.picks [2, 3] (by decide) rfl) (fun HS => ?_)
  refine qm [7] (by kernel_rfl) rfl ?_
  refine all_cons ?_ all_nil
  refine qk HF (i := 7) rfl rfl ?_
  refine e_sa HF HM 1 rfl rfl rfl rfl rfl si_st rfl rfl (qb6 z.st) ?_
  clear HM; intro w1_7 HM
  refine noS (by kernel_rfl) ?_
  refine qq (by kernel_rfl) ?_
  exact ⟨g5, g6, HF.sub (by kernel_rfl), HM.picks [1, 0, 2, 3] (by decide) rfl⟩
 clear HF HM; rintro a w1 ⟨g5, g6, HF, HM⟩
 refine wp_seq (wp_seq (qa ?_))
 refine fp HF 1 0 [(15, vP g2 0)] fun a HF => ?_
 refine fy HF HM 1 rfl rfl rfl (v := vI s.next) (Yl.qf rfl rfl (by kernel_rfl) (fun _ h => h.cell (i := 3) rfl (rfl))) fun a HF => ?_
 refine fp HF 1 2 [(17, vP g3 0)] fun a HF => ?_
 refine fy HF HM 3 rfl rfl rfl (v := vI z.next) (Yl.qf rfl rfl (by kernel_rfl) (fun _ h => h.cell (i := 2) rfl (rfl))) fun a HF => ?_
 refine fp HF 2 4 [(20, .bool ((s.next : Int) != (z.next : Int)))] fun a HF => ?_
 rcases HF.tf 20 rfl with ⟨hb20, HF⟩ | ⟨hb20, HF⟩
 ·
  have hd20 := bne_iff_ne.1 hb20
  refine fp HF 62 6 [(82, .bool true)] fun a HF => ?_
  refine qb rfl (qd HF rfl (wp_seq (qa ?_)))
  refine fp HF 1 0 [(4, .bool false)] fun a HF => ?_
  refine qb rfl (wp_ret ?_)
  exact ret1 rfl HF (.tmp HF rfl) (is_no (p := SnEq s z) (fun e => hd20 e.1) HM.below)
 have hd20 := bne_eq_false_iff_eq.1 hb20
 refine fp HF 2 6 [(22, vP g5 0)] fun a HF => ?_
 refine fy HF HM 8 rfl rfl rfl (v := vI s.st.cpus) (Yl.qf rfl rfl (by kernel_rfl) (fun _ h => h.cell (i := 1) rfl (rfl))) fun a HF => ?_
 refine fp HF 2 9 [(25, vP g6 0)] fun a HF => ?_
 refine fy HF HM 11 rfl rfl rfl (v := vI z.st.cpus) (Yl.qf rfl rfl (by kernel_rfl) (fun _ h => h.cell (i := 0) rfl (rfl))) fun a HF => ?_
 refine fp HF 3 12 [(29, .bool ((s.st.cpus : Int) != (z.st.cpus : Int)))] fun a HF => ?_
 rcases HF.tf 29 rfl with ⟨hb29, HF⟩ | ⟨hb29, HF⟩
 ·
  have hd29 := bne_iff_ne.1 hb29
  refine fp HF 53 15 [(82, .bool true)] fun a HF => ?_
  refine qb rfl (qd HF rfl (wp_seq (qa ?_)))
  refine fp HF 1 0 [(4, .bool false)] fun a HF => ?_
  refine qb rfl (wp_ret ?_)
  exact ret1 rfl HF (.tmp HF rfl) (is_no (p := SnEq s z) (fun e => hd29 e.2.1) HM.below)
 have hd29 := bne_eq_false_iff_eq.1 hb29
 refine fp HF 2 15 [(31, vP g5 1)] fun a HF => ?_
 refine fy HF HM 17 rfl rfl rfl (v := vQ s.st.credit) (Yl.qf rfl rfl (by kernel_rfl) (fun _ h => h.cell (i := 1) rfl (rfl))) fun a HF => ?_
 refine fp HF 2 18 [(34, vP g6 1)] fun a HF => ?_
 refine fy HF HM 20 rfl rfl rfl (v := vQ z.st.credit) (Yl.qf rfl rfl (by kernel_rfl) (fun _ h => h.cell (i := 0) rfl (rfl))) fun a HF => ?_
 refine fp HF 3 21 [(38, .bool ((s.st.credit : Int) != (z.st.credit : Int)))] fun a HF => ?_
 rcases HF.tf 38 rfl with ⟨hb38, HF⟩ | ⟨hb38, HF⟩
 ·
  have hd38 := bne_iff_ne.1 hb38
  refine fp HF 44 24 [(82, .bool true)] fun a HF => ?_
  refine qb rfl (qd HF rfl (wp_seq (qa ?_)))
  refine fp HF 1 0 [(4, .bool false)] fun a HF => ?_
  refine qb rfl (wp_ret ?_)
  exact ret1 rfl HF (.tmp HF rfl) (is_no (p := SnEq s z) (fun e => hd38 (by rw [e.2.2.1])) HM.below)
 have hd38 := bne_eq_false_iff_eq.1 hb38
 refine fp HF 2 24 [(40, vP g5 2)] fun a HF => ?_
 refine fy HF HM 26 rfl rfl rfl (v := .slice s.st.gA s.st.gs.length s.st.gc) (Yl.qf rfl rfl (by kernel_rfl) (fun _ h => h.cell (i := 1) rfl (rfl))) fun a HF => ?_
 refine fy HF HM 27 rfl rfl rfl (Yl.len rfl rfl (by kernel_rfl)) fun a HF => ?_
 refine fp HF 2 28 [(44, vP g6 2)] fun a HF => ?_
 refine fy HF HM 30 rfl rfl rfl (v := .slice z.st.gA z.st.gs.length z.st.gc) (Yl.qf rfl rfl (by kernel_rfl) (fun _ h => h.cell (i := 0) rfl (rfl))) fun a HF => ?_
 refine fy HF HM 31 rfl rfl rfl (Yl.len rfl rfl (by kernel_rfl)) fun a HF => ?_
 refine fp HF 3 32 [(49, .bool ((s.st.gs.length : Int) != (z.st.gs.length : Int)))] fun a HF => ?_
 rcases HF.tf 49 rfl with ⟨hb49, HF⟩ | ⟨hb49, HF⟩
 ·
  have hd49 := bne_iff_ne.1 hb49
  refine fp HF 33 35 [(82, .bool true)] fun a HF => ?_
  refine qb rfl (qd HF rfl (wp_seq (qa ?_)))
  refine fp HF 1 0 [(4, .bool false)] fun a HF => ?_
  refine qb rfl (wp_ret ?_)
  exact ret1 rfl HF (.tmp HF rfl) (is_no (p := SnEq s z) (fun e => hd49 (by rw [e.2.2.2.1])) HM.below)
 have hd49 := bne_eq_false_iff_eq.1 hb49
 refine fp HF 1 35 [(50, vP g5 5)] fun a HF => ?_
 refine fy HF HM 36 rfl rfl rfl (v := .slice s.st.tA s.st.ts.length s.st.tc) (Yl.qf rfl rfl (by kernel_rfl) (fun _ h => h.cell (i := 1) rfl (rfl))) fun a HF => ?_
 refine fy HF HM 37 rfl rfl rfl (Yl.len rfl rfl (by kernel_rfl)) fun a HF => ?_
 refine fp HF 1 38 [(53, vP g6 5)] fun a HF => ?_
 refine fy HF HM 39 rfl rfl rfl (v := .slice z.st.tA z.st.ts.length z.st.tc) (Yl.qf rfl rfl (by kernel_rfl) (fun _ h => h.cell (i := 0) rfl (rfl))) fun a HF => ?_
 refine fy HF HM 40 rfl rfl rfl (Yl.len rfl rfl (by kernel_rfl)) fun a HF => ?_
 refine fp HF 3 41 [(58, .bool ((s.st.ts.length : Int) != (z.st.ts.length : Int)))] fun a HF => ?_
 rcases HF.tf 58 rfl with ⟨hb58, HF⟩ | ⟨hb58, HF⟩
 ·
  have hd58 := bne_iff_ne.1 hb58
  refine fp HF 24 44 [(82, .bool true)] fun a HF => ?_
  refine qb rfl (qd HF rfl (wp_seq (qa ?_)))
  refine fp HF 1 0 [(4, .bool false)] fun a HF => ?_
  refine qb rfl (wp_ret ?_)
  exact ret1 rfl HF (.tmp HF rfl) (is_no (p := SnEq s z) (fun e => hd58 (by rw [e.2.2.2.2.2.2.1])) HM.below)
 have hd58 := bne_eq_false_iff_eq.1 hb58
 refine fp HF 1 44 [(59, vP g5 6)] fun a HF => ?_
 refine fy HF HM 45 rfl rfl rfl (v := .slice s.st.sA s.st.rs.length s.st.sc) (Yl.qf rfl rfl (by kernel_rfl) (fun _ h => h.cell (i := 1) rfl (rfl))) fun a HF => ?_
 refine fy HF HM 46 rfl rfl rfl (Yl.len rfl rfl (by kernel_rfl)) fun a HF => ?_
 refine fp HF 1 47 [(62, vP g6 6)] fun a HF => ?_
 refine fy HF HM 48 rfl rfl rfl (v := .slice z.st.sA z.st.rs.length z.st.sc) (Yl.qf rfl rfl (by kernel_rfl) (fun _ h => h.cell (i := 0) rfl (rfl))) fun a HF => ?_
 refine fy HF HM 49 rfl rfl rfl (Yl.len rfl rfl (by kernel_rfl)) fun a HF => ?_
 refine fp HF 3 50 [(67, .bool ((s.st.rs.length : Int) != (z.st.rs.length : Int)))] fun a HF => ?_
 rcases HF.tf 67 rfl with ⟨hb67, HF⟩ | ⟨hb67, HF⟩
 ·
  have hd67 := bne_iff_ne.1 hb67
  refine fp HF 15 53 [(82, .bool true)] fun a HF => ?_
  refine qb rfl ?_
  replace HF := HF.to [(82, .bool true), (6, vP g6 0), (5, vP g5 0), (4, .bool false), (3, vP g3 0), (2, vP g2 0)]
  refine qd HF rfl (wp_seq (qa ?_))
  refine fp HF 1 0 [(4, .bool false)] fun a HF => ?_
  refine qb rfl (wp_ret ?_)
  exact ret1 rfl HF (.tmp HF rfl) (is_no (p := SnEq s z) (fun e => hd67 (by rw [qcx e.2.2.2.2.2.2.2])) HM.below)
 have hd67 := bne_eq_false_iff_eq.1 hb67
 refine fp HF 1 53 [(68, vP g5 3)] fun a HF => ?_
 refine fy HF HM 54 rfl rfl rfl (v := .slice s.st.lA s.st.cl.length s.st.lc) (Yl.qf rfl rfl (by kernel_rfl) (fun _ h => h.cell (i := 1) rfl (rfl))) fun a HF => ?_
 refine fp HF 1 55 [(70, vP g6 3)] fun a HF => ?_
 refine fy HF HM 56 rfl rfl rfl (v := .slice z.st.lA z.st.cl.length z.st.lc) (Yl.qf rfl rfl (by kernel_rfl) (fun _ h => h.cell (i := 0) rfl (rfl))) fun a HF => ?_
 refine fo HF 57 rfl rfl ?_
 refine e_cl HF [.slice s.st.lA s.st.cl.length s.st.lc, .slice z.st.lA z.st.cl.length z.st.lc] rfl rfl (qmj s.st.lA s.st.lc s.st.cl z.st.lA z.st.lc z.st.cl _ (HM.old hx.l) (HM.old hz.l) hf.l hg.l) ?_
 rintro _ w72 ⟨rfl, hbw⟩
 refine ⟨_, rfl, ?_⟩
 replace HM := HM.call hbw
 clear HF; intro a HF
 refine fp HF 3 58 [(75, .bool (!(decide (s.st.cl = z.st.cl))))] fun a HF => ?_
 rcases HF.tf 75 rfl with ⟨hb75, HF⟩ | ⟨hb75, HF⟩
 ·
  have hd75 := of_decide_eq_false ((Bool.not_eq_true' _).mp hb75)
  refine fp HF 7 61 [(82, .bool true)] fun a HF => ?_
  refine qb rfl ?_
  replace HF := HF.to [(82, .bool true), (6, vP g6 0), (5, vP g5 0), (4, .bool false), (3, vP g3 0), (2, vP g2 0)]
  refine qd HF rfl (wp_seq (qa ?_))
  refine fp HF 1 0 [(4, .bool false)] fun a HF => ?_
  refine qb rfl (wp_ret ?_)
  exact ret1 rfl HF (.tmp HF rfl) (is_no (p := SnEq s z) (fun e => by simp [e.2.2.2.2.1] at hb75) HM.below)
 have hd75 := of_decide_eq_true ((Bool.not_eq_false' _).mp hb75)
 refine fp HF 1 61 [(76, vP g5 4)] fun a HF => ?_
 refine fy HF HM 62 rfl rfl rfl (v := .slice s.st.uA s.st.cu.length s.st.uc) (Yl.qf rfl rfl (by kernel_rfl) (fun _ h => h.cell (i := 1) rfl (rfl))) fun a HF => ?_
 refine fp HF 1 63 [(78, vP g6 4)] fun a HF => ?_
 refine fy HF HM 64 rfl rfl rfl (v := .slice z.st.uA z.st.cu.length z.st.uc) (Yl.qf rfl rfl (by kernel_rfl) (fun _ h => h.cell (i := 0) rfl (rfl))) fun a HF => ?_
 refine fo HF 65 rfl rfl ?_
 refine e_cl HF [.slice s.st.uA s.st.cu.length s.st.uc, .slice z.st.uA z.st.cu.length z.st.uc] rfl rfl (qmj s.st.uA s.st.uc s.st.cu z.st.uA z.st.uc z.st.cu _ (HM.old hx.u) (HM.old hz.u) hf.u hg.u) ?_
 rintro _ w80 ⟨rfl, hbw⟩
 refine ⟨_, rfl, ?_⟩
 replace HM := HM.call hbw
 clear HF; intro a HF
 refine fp HF 2 66 [(82, .bool (!(decide (s.st.cu = z.st.cu))))] fun a HF => ?_
 refine qb rfl ?_
 replace HF := HF.to [(82, .bool (!(decide (s.st.cu = z.st.cu)))), (6, vP g6 0), (5, vP g5 0), (4, .bool false), (3, vP g3 0), (2, vP g2 0)]
 rcases HF.tf 82 rfl with ⟨hb82, HF⟩ | ⟨hb82, HF⟩
 ·
  have hd82 := of_decide_eq_false ((Bool.not_eq_true' _).mp hb82)
  refine qd HF rfl (wp_seq (qa ?_))
  refine fp HF 1 0 [(4, .bool false)] fun a HF => ?_
  refine qb rfl (wp_ret ?_)
  exact ret1 rfl HF (.tmp HF rfl) (is_no (p := SnEq s z) (fun e => by simp [e.2.2.2.2.2.1] at hb82) HM.below)
 have hd82 := of_decide_eq_true ((Bool.not_eq_false' _).mp hb82)
 have hcl : s.st.cl = z.st.cl := by simpa using hb75
 have hcu : s.st.cu = z.st.cu := by simpa using hb82
 refine qc HF rfl (wp_skip (wp_seq (wp_seq (qa ?_))))
 refine fp HF 1 0 [(7, vI 0)] fun a HF => ?_
 refine qb rfl (wp_block ?_)
 refine qo (fun mS aS wS => ∃ (i : Nat), (i ≤ s.st.gs.length) ∧ (∀ n, n < i → s.st.gs.getD n Gr.zero = z.st.gs.getD n Gr.zero) ∧ mS = s.st.gs.length - i ∧ Fr aS 169 [] [(7, vI i), (82, .bool false), (6, vP g6 0), (5, vP g5 0), (4, .bool false), (3, vP g3 0), (2, vP g2 0)] ∧ Mem w wS [.blk g6 z.st.cells 30, .blk g5 s.st.cells 30, .blk g3 z.cells 56, .blk g2 s.cells 56]) (m := s.st.gs.length - 0) ⟨0, Nat.zero_le _, z0, rfl, HF.sub (by kernel_rfl), HM.picks [0, 1, 2, 3] (by decide) rfl⟩ ?_
 clear HF HM; rintro mS a w_ ⟨i, hk, hu, rfl, HF, HM⟩
 refine wp_seq (wp_seq (qa ?_))
 refine fp HF 3 0 [(85, vP g5 2), (83, vI i)] fun a HF => ?_
 refine fy HF HM 3 rfl rfl rfl (v := .slice s.st.gA s.st.gs.length s.st.gc) (Yl.qf rfl rfl (by kernel_rfl) (fun _ h => h.cell (i := 1) rfl (rfl))) fun a HF => ?_
 refine fy HF HM 4 rfl rfl rfl (Yl.len rfl rfl (by kernel_rfl)) fun a HF => ?_
 refine fp HF 1 5 [(88, .bool (decide ((i : Int) < (s.st.gs.length : Int))))] fun a HF => ?_
 refine qb rfl ?_
 rcases HF.tf 88 rfl with ⟨hb88, HF⟩ | ⟨hb88, HF⟩
 ·
  have hd88 := of_decide_eq_true hb88
  have hk1 : i < s.st.gs.length := by omega
  have hk2 : i < z.st.gs.length := by omega
  obtain ⟨gq1, oq1, hq1, _⟩ := Rd.qp hx.g (Nat.lt_of_le_of_lt (Nat.zero_le _) (show i < s.st.gs.length from hk1)) (by decide)
  have hrq1 := hx.g; rw [hq1] at hrq1
  obtain ⟨gq2, oq2, hq2, _⟩ := Rd.qp hz.g (Nat.lt_of_le_of_lt (Nat.zero_le _) (show i < z.st.gs.length from hk2)) (by decide)
  have hrq2 := hz.g; rw [hq2] at hrq2
  refine qd HF rfl (wp_skip (wp_seq (wp_block (wp_seq ?_))))
  refine zc HM [.blk g6 z.st.cells 30, .blk g5 s.st.cells 30, .blk g3 z.cells 56, .blk g2 s.cells 56] [0, 1, 2, 3] [] fun HM HS => ?_
  refine ap HF (fun _ => HS) [0, 1, 3, 6, 7, 9] #[true, true, false, true, false, false, true, true, false, true, false, false, false] [(100, vI i), (98, vP g6 2), (94, vI i), (92, vP g5 2)] fun a HF => ?_
  refine ay HF HS 2 rfl rfl rfl (v := .slice s.st.gA s.st.gs.length s.st.gc) (Yl.qf rfl rfl (by kernel_rfl) (fun _ h => h.cell (i := 1) rfl (rfl))) fun a HF => ?_
  replace HF := HF.as (t := 93) (u := .slice (some ⟨gq1, oq1, none⟩) s.st.gs.length s.st.gc) rfl (by rw [hq1]; try rfl)
  refine ay HF HS 4 rfl rfl rfl (v := vP gq1 (oq1 + i * 2)) (Yl.ix gq1 oq1 i 2 rfl rfl rfl) fun a HF => ?_
  refine ay HF HS 5 rfl rfl rfl (v := .agg ((s.st.gs.getD i Gr.zero).cells)) (Yl.qr rfl rfl si_gr rfl (fun _ h => (h.old hrq1).q6 zk ((getD_at Gr.zero hk1)))) fun a HF => ?_
  refine ay HF HS 8 rfl rfl rfl (v := .slice z.st.gA z.st.gs.length z.st.gc) (Yl.qf rfl rfl (by kernel_rfl) (fun _ h => h.cell (i := 0) rfl (rfl))) fun a HF => ?_
  replace HF := HF.as (t := 99) (u := .slice (some ⟨gq2, oq2, none⟩) z.st.gs.length z.st.gc) rfl (by rw [hq2]; try rfl)
  refine ay HF HS 10 rfl rfl rfl (v := vP gq2 (oq2 + i * 2)) (Yl.ix gq2 oq2 i 2 rfl rfl rfl) fun a HF => ?_
  refine ay HF HS 11 rfl rfl rfl (v := .agg ((z.st.gs.getD i Gr.zero).cells)) (Yl.qr rfl rfl si_gr rfl (fun _ h => (h.old hrq2).q6 zk ((getD_at Gr.zero hk2)))) fun a HF => ?_
  refine ay HF HS 12 rfl rfl rfl (v := .bool (!(decide ((s.st.gs.getD i Gr.zero) = (z.st.gs.getD i Gr.zero))))) (Yl.qch rfl rfl rfl (qez (s.st.gs.getD i Gr.zero) (z.st.gs.getD i Gr.zero))) fun a HF => ?_
  refine qq (by kernel_rfl) ?_
  rcases HF.tf 103 rfl with ⟨hb103, HF⟩ | ⟨hb103, HF⟩
  ·
   have hd103 := of_decide_eq_false ((Bool.not_eq_true' _).mp hb103)
   refine qd HF rfl (wp_seq (qa ?_))
   refine fp HF 1 0 [(4, .bool false)] fun a HF => ?_
   refine qb rfl (wp_ret ?_)
   exact ret1 rfl HF (.tmp HF rfl) (is_no (p := SnEq s z) (fun e => hd103 (by rw [e.2.2.2.1])) HM.below)
  have hd103 := of_decide_eq_true ((Bool.not_eq_false' _).mp hb103)
  refine qc HF rfl (wp_skip (qa ?_))
  refine fp HF 2 0 [(90, vI (IntKind.i64.wrap ((i : Int) + 1)))] fun a HF => ?_
  replace HF := HF.sp 90 (vI (i + 1 : Nat)) rfl (qi (by omega) (by omega))
  refine fp HF 1 2 [(7, vI (i + 1 : Nat))] fun a HF => ?_
  refine qb rfl ?_
  exact ⟨_, (by omega), i + 1, by omega, z1 hu hd103, rfl, HF.sub (by kernel_rfl), HM.picks [0, 1, 2, 3] (by decide) rfl⟩
 have hd88 := of_decide_eq_false hb88
 have hgs : s.st.gs = z.st.gs := z5 Gr.zero (by omega) (fun n hn => hu n (by omega))
 refine qc HF rfl (wp_exit (wp_seq (wp_seq (qa ?_))))
 refine fp HF 1 0 [(8, vI 0)] fun a HF => ?_
 refine qb rfl (wp_block ?_)
 refine qo (fun mS aS wS => ∃ (j : Nat), (j ≤ s.st.ts.length) ∧ (∀ n, n < j → s.st.ts.getD n Tk.zero = z.st.ts.getD n Tk.zero) ∧ mS = s.st.ts.length - j ∧ Fr aS 169 [] [(8, vI j), (88, .bool false), (7, vI i), (82, .bool false), (6, vP g6 0), (5, vP g5 0), (4, .bool false), (3, vP g3 0), (2, vP g2 0)] ∧ Mem w wS [.blk g6 z.st.cells 30, .blk g5 s.st.cells 30, .blk g3 z.cells 56, .blk g2 s.cells 56]) (m := s.st.ts.length - 0) ⟨0, Nat.zero_le _, z0, rfl, HF.sub (by kernel_rfl), HM.picks [0, 1, 2, 3] (by decide) rfl⟩ ?_
 clear HF HM; rintro mS a w_ ⟨j, hk, hu, rfl, HF, HM⟩
 refine wp_seq (wp_seq (qa ?_))
 refine fp HF 2 0 [(105, vP g5 5), (104, vI j)] fun a HF => ?_
 refine fy HF HM 2 rfl rfl rfl (v := .slice s.st.tA s.st.ts.length s.st.tc) (Yl.qf rfl rfl (by kernel_rfl) (fun _ h => h.cell (i := 1) rfl (rfl))) fun a HF => ?_
 refine fy HF HM 3 rfl rfl rfl (Yl.len rfl rfl (by kernel_rfl)) fun a HF => ?_
 refine fp HF 1 4 [(108, .bool (decide ((j : Int) < (s.st.ts.length : Int))))] fun a HF => ?_
 refine qb rfl ?_
 rcases HF.tf 108 rfl with ⟨hb108, HF⟩ | ⟨hb108, HF⟩
 ·
  have hd108 := of_decide_eq_true hb108
  have hk1 : j < s.st.ts.length := by omega
  have hk2 : j < z.st.ts.length := by omega
  obtain ⟨gq3, oq3, hq3, _⟩ := Rd.qp hx.t (Nat.lt_of_le_of_lt (Nat.zero_le _) (show j < s.st.ts.length from hk1)) (by decide)
  have hrq3 := hx.t; rw [hq3] at hrq3
  obtain ⟨gq4, oq4, hq4, _⟩ := Rd.qp hz.t (Nat.lt_of_le_of_lt (Nat.zero_le _) (show j < z.st.ts.length from hk2)) (by decide)
  have hrq4 := hz.t; rw [hq4] at hrq4
  refine qd HF rfl (wp_skip (wp_seq (wp_block (wp_seq ?_))))
  refine zc HM [.blk g6 z.st.cells 30, .blk g5 s.st.cells 30, .blk g3 z.cells 56, .blk g2 s.cells 56] [0, 1, 2, 3] [] fun HM HS => ?_
  refine ap HF (fun _ => HS) [0, 2, 5, 7] #[true, false, true, false, false, true, false, true, false, false, false] [(118, vI j), (116, vP g6 5), (113, vI j), (111, vP g5 5)] fun a HF => ?_
  refine ay HF HS 1 rfl rfl rfl (v := .slice s.st.tA s.st.ts.length s.st.tc) (Yl.qf rfl rfl (by kernel_rfl) (fun _ h => h.cell (i := 1) rfl (rfl))) fun a HF => ?_
  replace HF := HF.as (t := 112) (u := .slice (some ⟨gq3, oq3, none⟩) s.st.ts.length s.st.tc) rfl (by rw [hq3]; try rfl)
  refine ay HF HS 3 rfl rfl rfl (v := vP gq3 (oq3 + j * 8)) (Yl.ix gq3 oq3 j 8 rfl rfl rfl) fun a HF => ?_
  refine ay HF HS 4 rfl rfl rfl (v := .agg ((s.st.ts.getD j Tk.zero).cells)) (Yl.qr rfl rfl si_tk rfl (fun _ h => (h.old hrq3).q6 zf ((getD_at Tk.zero hk1)))) fun a HF => ?_
  refine ay HF HS 6 rfl rfl rfl (v := .slice z.st.tA z.st.ts.length z.st.tc) (Yl.qf rfl rfl (by kernel_rfl) (fun _ h => h.cell (i := 0) rfl (rfl))) fun a HF => ?_
  replace HF := HF.as (t := 117) (u := .slice (some ⟨gq4, oq4, none⟩) z.st.ts.length z.st.tc) rfl (by rw [hq4]; try rfl)
  refine ay HF HS 8 rfl rfl rfl (v := vP gq4 (oq4 + j * 8)) (Yl.ix gq4 oq4 j 8 rfl rfl rfl) fun a HF => ?_
  refine ay HF HS 9 rfl rfl rfl (v := .agg ((z.st.ts.getD j Tk.zero).cells)) (Yl.qr rfl rfl si_tk rfl (fun _ h => (h.old hrq4).q6 zf ((getD_at Tk.zero hk2)))) fun a HF => ?_
  refine ay HF HS 10 rfl rfl rfl (v := .bool (!(decide ((s.st.ts.getD j Tk.zero) = (z.st.ts.getD j Tk.zero))))) (Yl.qch rfl rfl rfl (qht (s.st.ts.getD j Tk.zero) (z.st.ts.getD j Tk.zero))) fun a HF => ?_
  refine qq (by kernel_rfl) ?_
  rcases HF.tf 121 rfl with ⟨hb121, HF⟩ | ⟨hb121, HF⟩
  ·
   have hd121 := of_decide_eq_false ((Bool.not_eq_true' _).mp hb121)
   refine qd HF rfl (wp_seq (qa ?_))
   refine fp HF 1 0 [(4, .bool false)] fun a HF => ?_
   refine qb rfl (wp_ret ?_)
   exact ret1 rfl HF (.tmp HF rfl) (is_no (p := SnEq s z) (fun e => hd121 (by rw [e.2.2.2.2.2.2.1])) HM.below)
  have hd121 := of_decide_eq_true ((Bool.not_eq_false' _).mp hb121)
  refine qc HF rfl (wp_skip (qa ?_))
  refine fp HF 2 0 [(110, vI (IntKind.i64.wrap ((j : Int) + 1)))] fun a HF => ?_
  replace HF := HF.sp 110 (vI (j + 1 : Nat)) rfl (qi (by omega) (by omega))
  refine fp HF 1 2 [(8, vI (j + 1 : Nat))] fun a HF => ?_
  refine qb rfl ?_
  exact ⟨_, (by omega), j + 1, by omega, z1 hu hd121, rfl, HF.sub (by kernel_rfl), HM.picks [0, 1, 2, 3] (by decide) rfl⟩
 have hd108 := of_decide_eq_false hb108
 have hts : s.st.ts = z.st.ts := z5 Tk.zero (by omega) (fun n hn => hu n (by omega))
 refine qc HF rfl (wp_exit (wp_seq (wp_seq (qa ?_))))
 refine fp HF 1 0 [(9, vI 0)] fun a HF => ?_
 refine qb rfl (wp_block ?_)
 refine qo (fun mS aS wS => ∃ (k : Nat), (k ≤ s.st.rs.length) ∧ (∀ i, i < k → (s.st.rs.getD i Rw.zero).l = (z.st.rs.getD i Rw.zero).l) ∧ mS = s.st.rs.length - k ∧ Fr aS 169 [] [(9, vI k), (108, .bool false), (8, vI j), (88, .bool false), (7, vI i), (82, .bool false), (6, vP g6 0), (5, vP g5 0), (4, .bool false), (3, vP g3 0), (2, vP g2 0)] ∧ Mem w wS [.blk g6 z.st.cells 30, .blk g5 s.st.cells 30, .blk g3 z.cells 56, .blk g2 s.cells 56]) (m := s.st.rs.length - 0) ⟨0, Nat.zero_le _, z0, rfl, HF.sub (by kernel_rfl), HM.picks [0, 1, 2, 3] (by decide) rfl⟩ ?_
 clear HF HM; rintro mS a w_ ⟨k, hk, hu, rfl, HF, HM⟩
 refine wp_seq (wp_seq (qa ?_))
 refine fp HF 2 0 [(123, vP g5 6), (122, vI k)] fun a HF => ?_
 refine fy HF HM 2 rfl rfl rfl (v := .slice s.st.sA s.st.rs.length s.st.sc) (Yl.qf rfl rfl (by kernel_rfl) (fun _ h => h.cell (i := 1) rfl (rfl))) fun a HF => ?_
 refine fy HF HM 3 rfl rfl rfl (Yl.len rfl rfl (by kernel_rfl)) fun a HF => ?_
 refine fp HF 1 4 [(126, .bool (decide ((k : Int) < (s.st.rs.length : Int))))] fun a HF => ?_
 refine qb rfl ?_
 rcases HF.tf 126 rfl with ⟨hb126, HF⟩ | ⟨hb126, HF⟩
 ·
  have hd126 := of_decide_eq_true hb126
  have hk1 : k < s.st.rs.length := by omega
  have hk2 : k < z.st.rs.length := by omega
  obtain ⟨gq5, oq5, hq5, _⟩ := Rd.qp hx.s (Nat.lt_of_le_of_lt (Nat.zero_le _) (show k < s.st.rs.length from hk1)) (by decide)
  have hrq5 := hx.s; rw [hq5] at hrq5
  obtain ⟨gq6, oq6, hq6, _⟩ := Rd.qp hz.s (Nat.lt_of_le_of_lt (Nat.zero_le _) (show k < z.st.rs.length from hk2)) (by decide)
  have hrq6 := hz.s; rw [hq6] at hrq6
  obtain ⟨x, hx_⟩ : ∃ q, (s.st.rs.getD k Rw.zero) = q := ⟨_, rfl⟩
  obtain ⟨y, hy_⟩ : ∃ q, (z.st.rs.getD k Rw.zero) = q := ⟨_, rfl⟩
  have hxr : Rd w w.heap.size 3 x.A x.l.length (x.l.flatMap spL) := by rw [← hx_]; exact hx.row hk1
  have hyr : Rd w w.heap.size 3 y.A y.l.length (y.l.flatMap spL) := by rw [← hy_]; exact hz.row hk2
  have hxl : x.l.length ≤ 1000000 := by rw [← hx_]; exact hf.r _ (q5 Rw.zero hk1)
  have hyl : y.l.length ≤ 1000000 := by rw [← hy_]; exact hg.r _ (q5 Rw.zero hk2)
  refine qd HF rfl (wp_skip (wp_seq (wp_block (wp_seq (wp_seq ?_)))))
  refine zc HM [.blk g6 z.st.cells 30, .blk g5 s.st.cells 30, .blk g3 z.cells 56, .blk g2 s.cells 56] [0, 1, 2, 3] [] fun HM HS => ?_
  refine ap HF (fun _ => HS) [0, 2, 6, 8] #[true, false, true, false, false, false, true, false, true, false, false, false, false] [(137, vI k), (135, vP g6 6), (131, vI k), (129, vP g5 6)] fun a HF => ?_
  refine ay HF HS 1 rfl rfl rfl (v := .slice s.st.sA s.st.rs.length s.st.sc) (Yl.qf rfl rfl (by kernel_rfl) (fun _ h => h.cell (i := 1) rfl (rfl))) fun a HF => ?_
  replace HF := HF.as (t := 130) (u := .slice (some ⟨gq5, oq5, none⟩) s.st.rs.length s.st.sc) rfl (by rw [hq5]; try rfl)
  refine ay HF HS 3 rfl rfl rfl (v := vP gq5 (oq5 + k * 1)) (Yl.ix gq5 oq5 k 1 rfl rfl rfl) fun a HF => ?_
  refine ay HF HS 4 rfl rfl rfl (v := .slice ((s.st.rs.getD k Rw.zero).A) ((s.st.rs.getD k Rw.zero).l.length) ((s.st.rs.getD k Rw.zero).c)) (Yl.qf rfl rfl (by kernel_rfl) (fun _ h => (h.old hrq5).q7 (k := k) (qz (F := Rw.val) (k := k) (x := (s.st.rs.getD k Rw.zero)) ((getD_at Rw.zero hk1))))) fun a HF => ?_
  replace HF := HF.sp 133 (.slice x.A x.l.length x.c) rfl (by rw [hx_])
  refine ay HF HS 5 rfl rfl rfl (Yl.len rfl rfl (by kernel_rfl)) fun a HF => ?_
  refine ay HF HS 7 rfl rfl rfl (v := .slice z.st.sA z.st.rs.length z.st.sc) (Yl.qf rfl rfl (by kernel_rfl) (fun _ h => h.cell (i := 0) rfl (rfl))) fun a HF => ?_
  replace HF := HF.as (t := 136) (u := .slice (some ⟨gq6, oq6, none⟩) z.st.rs.length z.st.sc) rfl (by rw [hq6]; try rfl)
  refine ay HF HS 9 rfl rfl rfl (v := vP gq6 (oq6 + k * 1)) (Yl.ix gq6 oq6 k 1 rfl rfl rfl) fun a HF => ?_
  refine ay HF HS 10 rfl rfl rfl (v := .slice ((z.st.rs.getD k Rw.zero).A) ((z.st.rs.getD k Rw.zero).l.length) ((z.st.rs.getD k Rw.zero).c)) (Yl.qf rfl rfl (by kernel_rfl) (fun _ h => (h.old hrq6).q7 (k := k) (qz (F := Rw.val) (k := k) (x := (z.st.rs.getD k Rw.zero)) ((getD_at Rw.zero hk2))))) fun a HF => ?_
  replace HF := HF.sp 139 (.slice y.A y.l.length y.c) rfl (by rw [hy_])
  refine ay HF HS 11 rfl rfl rfl (Yl.len rfl rfl (by kernel_rfl)) fun a HF => ?_
  refine ap HF (fun _ => HS) [12] #[true, true, true, true, true, true, true, true, true, true, true, true, true] [(141, .bool ((x.l.length : Int) != (y.l.length : Int)))] fun a HF => ?_
  refine qq (by kernel_rfl) ?_
  rcases HF.tf 141 rfl with ⟨hb141, HF⟩ | ⟨hb141, HF⟩
  ·
   have hd141 := bne_iff_ne.1 hb141
   refine qd HF rfl (wp_seq (qa ?_))
   refine fp HF 1 0 [(4, .bool false)] fun a HF => ?_
   refine qb rfl (wp_ret ?_)
   exact ret1 rfl HF (.tmp HF rfl) (is_no (p := SnEq s z) (fun e => qdq hk1 hk2 (by rw [hx_, hy_]; exact qvy (by omega)) e.2.2.2.2.2.2.2) HM.below)
  have hd141 := bne_eq_false_iff_eq.1 hb141
  refine qc HF rfl (wp_skip (wp_seq (qa ?_)))
  refine fp HF 1 0 [(10, vI 0)] fun a HF => ?_
  refine qb rfl (wp_block ?_)
  refine qo (fun mS aS wS => ∃ (c : Nat), (c ≤ x.l.length) ∧ (∀ i, i < c → x.l.getD i Sp.zero = y.l.getD i Sp.zero) ∧ mS = x.l.length - c ∧ Fr aS 169 [] [(10, vI c), (141, .bool false), (126, .bool true), (9, vI k), (108, .bool false), (8, vI j), (88, .bool false), (7, vI i), (82, .bool false), (6, vP g6 0), (5, vP g5 0), (4, .bool false), (3, vP g3 0), (2, vP g2 0)] ∧ Mem w wS [.blk g6 z.st.cells 30, .blk g5 s.st.cells 30, .blk g3 z.cells 56, .blk g2 s.cells 56]) (m := x.l.length - 0) ⟨0, Nat.zero_le _, z0, rfl, HF.sub (by kernel_rfl), HM.picks [0, 1, 2, 3] (by decide) rfl⟩ ?_
  clear HF HM; rintro mS a w_ ⟨c, hc, hu2, rfl, HF, HM⟩
  refine wp_seq (wp_seq (qa ?_))
  refine fp HF 2 0 [(143, vP g5 6), (142, vI c)] fun a HF => ?_
  refine fy HF HM 2 rfl rfl rfl (v := .slice s.st.sA s.st.rs.length s.st.sc) (Yl.qf rfl rfl (by kernel_rfl) (fun _ h => h.cell (i := 1) rfl (rfl))) fun a HF => ?_
  refine fp HF 1 3 [(145, vI k)] fun a HF => ?_
  replace HF := HF.as (t := 144) (u := .slice (some ⟨gq5, oq5, none⟩) s.st.rs.length s.st.sc) rfl (by rw [hq5]; try rfl)
  refine fy HF HM 4 rfl rfl rfl (v := vP gq5 (oq5 + k * 1)) (Yl.ix gq5 oq5 k 1 rfl rfl rfl) fun a HF => ?_
  refine fy HF HM 5 rfl rfl rfl (v := .slice ((s.st.rs.getD k Rw.zero).A) ((s.st.rs.getD k Rw.zero).l.length) ((s.st.rs.getD k Rw.zero).c)) (Yl.qf rfl rfl (by kernel_rfl) (fun _ h => (h.old hrq5).q7 (k := k) (qz (F := Rw.val) (k := k) (x := (s.st.rs.getD k Rw.zero)) ((getD_at Rw.zero hk1))))) fun a HF => ?_
  replace HF := HF.sp 147 (.slice x.A x.l.length x.c) rfl (by rw [hx_])
  refine fy HF HM 6 rfl rfl rfl (Yl.len rfl rfl (by kernel_rfl)) fun a HF => ?_
  refine fp HF 1 7 [(149, .bool (decide ((c : Int) < (x.l.length : Int))))] fun a HF => ?_
  refine qb rfl ?_
  rcases HF.tf 149 rfl with ⟨hb149, HF⟩ | ⟨hb149, HF⟩
  ·
   have hd149 := of_decide_eq_true hb149
   have hc1 : c < x.l.length := by omega
   have hc2 : c < y.l.length := by omega
   obtain ⟨gq7, oq7, hq7, _⟩ := Rd.qp hxr (Nat.lt_of_le_of_lt (Nat.zero_le _) (show c < x.l.length from hc1)) (by decide)
   have hrq7 := hxr; rw [hq7] at hrq7
   obtain ⟨gq8, oq8, hq8, _⟩ := Rd.qp hyr (Nat.lt_of_le_of_lt (Nat.zero_le _) (show c < y.l.length from hc2)) (by decide)
   have hrq8 := hyr; rw [hq8] at hrq8
   refine qd HF rfl (wp_skip (wp_seq (wp_block (wp_seq ?_))))
   refine zc HM [.blk g6 z.st.cells 30, .blk g5 s.st.cells 30, .blk g3 z.cells 56, .blk g2 s.cells 56] [0, 1, 2, 3] [] fun HM HS => ?_
   refine ap HF (fun _ => HS) [0, 2, 5, 8, 10, 13] #[true, false, true, false, false, true, false, false, true, false, true, false, false, true, false, false, false] [(165, vI c), (162, vI k), (160, vP g6 6), (157, vI c), (154, vI k), (152, vP g5 6)] fun a HF => ?_
   refine ay HF HS 1 rfl rfl rfl (v := .slice s.st.sA s.st.rs.length s.st.sc) (Yl.qf rfl rfl (by kernel_rfl) (fun _ h => h.cell (i := 1) rfl (rfl))) fun a HF => ?_
   replace HF := HF.as (t := 153) (u := .slice (some ⟨gq5, oq5, none⟩) s.st.rs.length s.st.sc) rfl (by rw [hq5]; try rfl)
   refine ay HF HS 3 rfl rfl rfl (v := vP gq5 (oq5 + k * 1)) (Yl.ix gq5 oq5 k 1 rfl rfl rfl) fun a HF => ?_
   refine ay HF HS 4 rfl rfl rfl (v := .slice ((s.st.rs.getD k Rw.zero).A) ((s.st.rs.getD k Rw.zero).l.length) ((s.st.rs.getD k Rw.zero).c)) (Yl.qf rfl rfl (by kernel_rfl) (fun _ h => (h.old hrq5).q7 (k := k) (qz (F := Rw.val) (k := k) (x := (s.st.rs.getD k Rw.zero)) ((getD_at Rw.zero hk1))))) fun a HF => ?_
   replace HF := HF.sp 156 (.slice x.A x.l.length x.c) rfl (by rw [hx_])
   replace HF := HF.as (t := 156) (u := .slice (some ⟨gq7, oq7, none⟩) x.l.length x.c) rfl (by rw [hq7]; try rfl)
   refine ay HF HS 6 rfl rfl rfl (v := vP gq7 (oq7 + c * 3)) (Yl.ix gq7 oq7 c 3 rfl rfl rfl) fun a HF => ?_
   refine ay HF HS 7 rfl rfl rfl (v := .agg ((x.l.getD c Sp.zero).cells)) (Yl.qr rfl rfl si_sp rfl (fun _ h => (h.old hrq7).q6 zr ((getD_at Sp.zero hc1)))) fun a HF => ?_
   refine ay HF HS 9 rfl rfl rfl (v := .slice z.st.sA z.st.rs.length z.st.sc) (Yl.qf rfl rfl (by kernel_rfl) (fun _ h => h.cell (i := 0) rfl (rfl))) fun a HF => ?_
   replace HF := HF.as (t := 161) (u := .slice (some ⟨gq6, oq6, none⟩) z.st.rs.length z.st.sc) rfl (by rw [hq6]; try rfl)
   refine ay HF HS 11 rfl rfl rfl (v := vP gq6 (oq6 + k * 1)) (Yl.ix gq6 oq6 k 1 rfl rfl rfl) fun a HF => ?_
   refine ay HF HS 12 rfl rfl rfl (v := .slice ((z.st.rs.getD k Rw.zero).A) ((z.st.rs.getD k Rw.zero).l.length) ((z.st.rs.getD k Rw.zero).c)) (Yl.qf rfl rfl (by kernel_rfl) (fun _ h => (h.old hrq6).q7 (k := k) (qz (F := Rw.val) (k := k) (x := (z.st.rs.getD k Rw.zero)) ((getD_at Rw.zero hk2))))) fun a HF => ?_
   replace HF := HF.sp 164 (.slice y.A y.l.length y.c) rfl (by rw [hy_])
   replace HF := HF.as (t := 164) (u := .slice (some ⟨gq8, oq8, none⟩) y.l.length y.c) rfl (by rw [hq8]; try rfl)
   refine ay HF HS 14 rfl rfl rfl (v := vP gq8 (oq8 + c * 3)) (Yl.ix gq8 oq8 c 3 rfl rfl rfl) fun a HF => ?_
   refine ay HF HS 15 rfl rfl rfl (v := .agg ((y.l.getD c Sp.zero).cells)) (Yl.qr rfl rfl si_sp rfl (fun _ h => (h.old hrq8).q6 zr ((getD_at Sp.zero hc2)))) fun a HF => ?_
   refine ay HF HS 16 rfl rfl rfl (v := .bool (!(decide ((x.l.getD c Sp.zero) = (y.l.getD c Sp.zero))))) (Yl.qch rfl rfl rfl (qhu (x.l.getD c Sp.zero) (y.l.getD c Sp.zero))) fun a HF => ?_
   refine qq (by kernel_rfl) ?_
   rcases HF.tf 168 rfl with ⟨hb168, HF⟩ | ⟨hb168, HF⟩
   ·
    have hd168 := of_decide_eq_false ((Bool.not_eq_true' _).mp hb168)
    refine qd HF rfl (wp_seq (qa ?_))
    refine fp HF 1 0 [(4, .bool false)] fun a HF => ?_
    refine qb rfl (wp_ret ?_)
    exact ret1 rfl HF (.tmp HF rfl) (is_no (p := SnEq s z) (fun e => qdq hk1 hk2 (by rw [hx_, hy_]; exact fun h => hd168 (by rw [h])) e.2.2.2.2.2.2.2) HM.below)
   have hd168 := of_decide_eq_true ((Bool.not_eq_false' _).mp hb168)
   refine qc HF rfl (wp_skip (qa ?_))
   refine fp HF 2 0 [(151, vI (IntKind.i64.wrap ((c : Int) + 1)))] fun a HF => ?_
   replace HF := HF.sp 151 (vI (c + 1 : Nat)) rfl (qi (by omega) (by omega))
   refine fp HF 1 2 [(10, vI (c + 1 : Nat))] fun a HF => ?_
   refine qb rfl ?_
   exact ⟨_, (by omega), c + 1, by omega, z1 hu2 hd168, rfl, HF.sub (by kernel_rfl), HM.picks [0, 1, 2, 3] (by decide) rfl⟩
  have hd149 := of_decide_eq_false hb149
  have hxy : x.l = y.l := z5 Sp.zero (by omega) (fun i hi => hu2 i (by omega))
  refine qc HF rfl (wp_exit (qa ?_))
  refine fp HF 2 0 [(128, vI (IntKind.i64.wrap ((k : Int) + 1)))] fun a HF => ?_
  replace HF := HF.sp 128 (vI (k + 1 : Nat)) rfl (qi (by omega) (by omega))
  refine fp HF 1 2 [(9, vI (k + 1 : Nat))] fun a HF => ?_
  refine qb rfl ?_
  exact ⟨_, (by omega), k + 1, by omega, z1 (f := fun i => (s.st.rs.getD i Rw.zero).l) (g := fun i => (z.st.rs.getD i Rw.zero).l) hu (by rw [hx_, hy_]; exact hxy), rfl, HF.sub (by kernel_rfl), HM.picks [0, 1, 2, 3] (by decide) rfl⟩
 have hd126 := of_decide_eq_false hb126
 refine qc HF rfl (wp_exit (wp_seq (qa ?_)))
 refine fp HF 1 0 [(4, .bool true)] fun a HF => ?_
 refine qb rfl (wp_ret ?_)
 exact ret1 rfl HF (.tmp HF rfl) (qba (p := SnEq s z) ⟨hd20, hd29, by omega, hgs, hcl, hcu, hts, qfr (by omega) (fun i hi => hu i (by omega))⟩ HM.below)
end Go.Proofs.YtggpmlaappaopaaGreatDoor
