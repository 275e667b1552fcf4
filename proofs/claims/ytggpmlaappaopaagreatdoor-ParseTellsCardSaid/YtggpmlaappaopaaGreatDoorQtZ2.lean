/- Parts. -/
import Derived.Test.YtggpmlaappaopaaGreatDoorQtRnd2
import Derived.Test.YtggpmlaappaopaaGreatDoorQtIs
import Derived.Test.YtggpmlaappaopaaGreatDoorQtSep14
import Derived.Test.YtggpmlaappaopaaGreatDoorQtSep8
import Derived.Test.YtggpmlaappaopaaGreatDoorQtRef01
import Derived.Test.YtggpmlaappaopaaGreatDoorQtSep16
import Derived.Test.YtggpmlaappaopaaGreatDoorQtSep13
import Derived.Test.YtggpmlaappaopaaGreatDoorQtCrcP
import Derived.Test.YtggpmlaappaopaaGreatDoorQtSep17
import Derived.Test.YtggpmlaappaopaaGreatDoorQtVarint
import Derived.Test.YtggpmlaappaopaaGreatDoorQtZ1
set_option linter.all false
set_option maxRecDepth 100000
set_option maxHeartbeats 1000000
namespace Go.Proofs.YtggpmlaappaopaaGreatDoor
open Go.RowKit
theorem qt1 (A : Option Addr) (c : Nat) (l : List Nat) (D : Option Addr) (c2 : Nat) (m : List Nat) (w : World) (hr : Rd w w.heap.size 1 A l.length (l.map U64)) (hr2 : Rd w w.heap.size 1 D m.length (m.map U64)) (hn : l.length ≤ 1000000) (hn2 : m.length ≤ 1000000) :
    Calls Tryz.prog 30 #[.slice A l.length c, .slice D m.length c2] w (Is w (.bool (decide (l = m)))) := by
 refine s_ce Tryz.func30 [.slice A l.length c, .slice D m.length c2] [(0, .slice A l.length c), (1, .slice D m.length c2)] fun a HF => ?_
 have HM := Mem.start w
 refine s_fs1 ?_
 refine fp HF 1 0 [(4, .bool false)] fun a HF => ?_
 refine s_d0 (wp_seq (s_fs1 ?_))
 refine fp HF 1 0 [(6, .slice A l.length c)] fun a HF => ?_
 refine s_fl HF 1 fun a HF => ?_
 refine fp HF 1 2 [(8, .slice D m.length c2)] fun a HF => ?_
 refine s_fl HF 3 fun a HF => ?_
 refine fp HF 1 4 [(10, .bool ((l.length : Int) != (m.length : Int)))] fun a HF => ?_
 refine s_d0 ?_
 rcases HF.tf 10 rfl with ⟨hb10, HF⟩ | ⟨hb10, HF⟩
 ·
  have hd10 := bne_iff_ne.1 hb10
  refine s_ct HF (s_fs1 ?_)
  refine fp HF 1 0 [(4, .bool false)] fun a HF => ?_
  refine s_d0 (wp_ret ?_)
  exact s_rt1 rfl HF rfl (is_no (fun e => by rw [e] at hd10; exact hd10 rfl) HM.below)
 have hd10 := bne_eq_false_iff_eq.1 hb10
 have hlm : l.length = m.length := by omega
 refine s_cf HF (wp_skip (wp_seq (s_fs1 ?_)))
 refine fp HF 1 0 [(5, vI 0)] fun a HF => ?_
 refine s_d0 (wp_block ?_)
 refine qi (fun mS aS wS => ∃ (k : Nat), (k ≤ l.length) ∧ (∀ i, i < k → l.getD i 0 = m.getD i 0) ∧ mS = l.length - k ∧ Fr aS 26 [] [(5, vI k), (10, .bool false), (4, .bool false), (0, .slice A l.length c), (1, .slice D m.length c2)] ∧ Mem w wS []) (m := l.length - 0) ⟨0, Nat.zero_le _, qct, rfl, HF.sub (by kernel_rfl), HM.pk []⟩ ?_
 clear HF HM; rintro mS a w_ ⟨k, hk, hu, rfl, HF, HM⟩
 refine wp_seq (s_fs1 ?_)
 refine fp HF 2 0 [(12, .slice A l.length c), (11, vI k)] fun a HF => ?_
 refine s_fl HF 2 fun a HF => ?_
 refine fp HF 1 3 [(14, .bool (decide ((k : Int) < (l.length : Int))))] fun a HF => ?_
 refine s_d0 ?_
 rcases HF.tf 14 rfl with ⟨hb14, HF⟩ | ⟨hb14, HF⟩
 ·
  have hd14 := of_decide_eq_true hb14
  have hk1 : k < l.length := by omega
  have hk2 : k < m.length := by omega
  obtain ⟨gA, oA, rfl, _⟩ := hr.qj (Nat.lt_of_le_of_lt (Nat.zero_le _) (show k < l.length from hk1)) (by decide)
  obtain ⟨gD, oD, rfl, _⟩ := hr2.qj (Nat.lt_of_le_of_lt (Nat.zero_le _) (show k < m.length from hk2)) (by decide)
  refine s_ct HF (wp_skip (wp_seq (wp_block (wp_seq ?_))))
  refine za HM [] [] [] fun HM HS => ?_
  refine ap HF (fun _ => HS) [0, 1, 4, 5] (bf 9 [0, 1, 4, 5]) [(22, vI k), (21, .slice (some ⟨gD, oD, none⟩) m.length c2), (18, vI k), (17, .slice (some ⟨gA, oA, none⟩) l.length c)] fun a HF => ?_
  refine s_az HF HS 2 rfl (v := vP gA (oA + k * 1)) (Yl.ix gA oA k 1 rfl rfl rfl) fun a HF => ?_
  refine s_az HF HS 3 rfl (v := vQ (l.getD k 0)) (Yl.o1 hr k 0 hk1 rfl rfl) fun a HF => ?_
  refine s_az HF HS 6 rfl (v := vP gD (oD + k * 1)) (Yl.ix gD oD k 1 rfl rfl rfl) fun a HF => ?_
  refine s_az HF HS 7 rfl (v := vQ (m.getD k 0)) (Yl.o1 hr2 k 0 hk2 rfl rfl) fun a HF => ?_
  refine ap HF (fun _ => HS) [8] (bt 9 []) [(25, .bool (((l.getD k 0) : Int) != ((m.getD k 0) : Int)))] fun a HF => ?_
  refine qk (by kernel_rfl) ?_
  rcases HF.tf 25 rfl with ⟨hb25, HF⟩ | ⟨hb25, HF⟩
  ·
   have hd25 := bne_iff_ne.1 hb25
   refine s_ct HF (s_fs1 ?_)
   refine fp HF 1 0 [(4, .bool false)] fun a HF => ?_
   refine s_d0 (wp_ret ?_)
   exact s_rt1 rfl HF rfl (is_no (fun e => hd25 (by rw [e])) HM.below)
  have hd25 := bne_eq_false_iff_eq.1 hb25
  refine s_cf HF (wp_skip (qa ?_))
  refine fp HF 2 0 [(16, vI (IntKind.i64.wrap ((k : Int) + 1)))] fun a HF => ?_
  replace HF := HF.sp 16 (vI (k + 1 : Nat)) rfl (qc (by omega) (by omega))
  refine fp HF 1 2 [(5, vI (k + 1 : Nat))] fun a HF => ?_
  refine s_d0 ?_
  exact ⟨_, (by omega), k + 1, by omega, qcu hu (by omega), rfl, HF.sub (by kernel_rfl), HM.pk []⟩
 have hd14 := of_decide_eq_false hb14
 refine s_cf HF (wp_exit (s_fs1 ?_))
 refine fp HF 1 0 [(4, .bool true)] fun a HF => ?_
 refine s_d0 (wp_ret ?_)
 exact s_rt1 rfl HF rfl (qhk (qcs 0 hlm (fun i hi => hu i (by omega))) HM.below)
theorem qon (A : Option Addr) (c : Nat) (l : List Int) (D : Option Addr) (c2 : Nat) (m : List Int) (w : World) (hr : Rd w w.heap.size 1 A l.length (l.map I64i)) (hr2 : Rd w w.heap.size 1 D m.length (m.map I64i)) (hn : l.length ≤ 1000000) (hn2 : m.length ≤ 1000000) :
    Calls Tryz.prog 65 #[.slice A l.length c, .slice D m.length c2] w (Is w (.bool (decide (l = m)))) := by
 refine s_ce Tryz.func65 [.slice A l.length c, .slice D m.length c2] [(0, .slice A l.length c), (1, .slice D m.length c2)] fun a HF => ?_
 have HM := Mem.start w
 refine s_fs1 ?_
 refine fp HF 1 0 [(4, .bool false)] fun a HF => ?_
 refine s_d0 (wp_seq (s_fs1 ?_))
 refine fp HF 1 0 [(6, .slice A l.length c)] fun a HF => ?_
 refine s_fl HF 1 fun a HF => ?_
 refine fp HF 1 2 [(8, .slice D m.length c2)] fun a HF => ?_
 refine s_fl HF 3 fun a HF => ?_
 refine fp HF 1 4 [(10, .bool ((l.length : Int) != (m.length : Int)))] fun a HF => ?_
 refine s_d0 ?_
 rcases HF.tf 10 rfl with ⟨hb10, HF⟩ | ⟨hb10, HF⟩
 ·
  have hd10 := bne_iff_ne.1 hb10
  refine s_ct HF (s_fs1 ?_)
  refine fp HF 1 0 [(4, .bool false)] fun a HF => ?_
  refine s_d0 (wp_ret ?_)
  exact s_rt1 rfl HF rfl (is_no (fun e => by rw [e] at hd10; exact hd10 rfl) HM.below)
 have hd10 := bne_eq_false_iff_eq.1 hb10
 have hlm : l.length = m.length := by omega
 refine s_cf HF (wp_skip (wp_seq (s_fs1 ?_)))
 refine fp HF 1 0 [(5, vI 0)] fun a HF => ?_
 refine s_d0 (wp_block ?_)
 refine qi (fun mS aS wS => ∃ (k : Nat), (k ≤ l.length) ∧ (∀ i, i < k → l.getD i 0 = m.getD i 0) ∧ mS = l.length - k ∧ Fr aS 26 [] [(5, vI k), (10, .bool false), (4, .bool false), (0, .slice A l.length c), (1, .slice D m.length c2)] ∧ Mem w wS []) (m := l.length - 0) ⟨0, Nat.zero_le _, qct, rfl, HF.sub (by kernel_rfl), HM.pk []⟩ ?_
 clear HF HM; rintro mS a w_ ⟨k, hk, hu, rfl, HF, HM⟩
 refine wp_seq (s_fs1 ?_)
 refine fp HF 2 0 [(12, .slice A l.length c), (11, vI k)] fun a HF => ?_
 refine s_fl HF 2 fun a HF => ?_
 refine fp HF 1 3 [(14, .bool (decide ((k : Int) < (l.length : Int))))] fun a HF => ?_
 refine s_d0 ?_
 rcases HF.tf 14 rfl with ⟨hb14, HF⟩ | ⟨hb14, HF⟩
 ·
  have hd14 := of_decide_eq_true hb14
  have hk1 : k < l.length := by omega
  have hk2 : k < m.length := by omega
  obtain ⟨gA, oA, rfl, _⟩ := hr.qj (Nat.lt_of_le_of_lt (Nat.zero_le _) (show k < l.length from hk1)) (by decide)
  obtain ⟨gD, oD, rfl, _⟩ := hr2.qj (Nat.lt_of_le_of_lt (Nat.zero_le _) (show k < m.length from hk2)) (by decide)
  refine s_ct HF (wp_skip (wp_seq (wp_block (wp_seq ?_))))
  refine za HM [] [] [] fun HM HS => ?_
  refine ap HF (fun _ => HS) [0, 1, 4, 5] (bf 9 [0, 1, 4, 5]) [(22, vI k), (21, .slice (some ⟨gD, oD, none⟩) m.length c2), (18, vI k), (17, .slice (some ⟨gA, oA, none⟩) l.length c)] fun a HF => ?_
  refine s_az HF HS 2 rfl (v := vP gA (oA + k * 1)) (Yl.ix gA oA k 1 rfl rfl rfl) fun a HF => ?_
  refine s_az HF HS 3 rfl (v := vI (l.getD k 0)) (Yl.o1 hr k 0 hk1 rfl rfl) fun a HF => ?_
  refine s_az HF HS 6 rfl (v := vP gD (oD + k * 1)) (Yl.ix gD oD k 1 rfl rfl rfl) fun a HF => ?_
  refine s_az HF HS 7 rfl (v := vI (m.getD k 0)) (Yl.o1 hr2 k 0 hk2 rfl rfl) fun a HF => ?_
  refine ap HF (fun _ => HS) [8] (bt 9 []) [(25, .bool (((l.getD k 0) : Int) != ((m.getD k 0) : Int)))] fun a HF => ?_
  refine qk (by kernel_rfl) ?_
  rcases HF.tf 25 rfl with ⟨hb25, HF⟩ | ⟨hb25, HF⟩
  ·
   have hd25 := bne_iff_ne.1 hb25
   refine s_ct HF (s_fs1 ?_)
   refine fp HF 1 0 [(4, .bool false)] fun a HF => ?_
   refine s_d0 (wp_ret ?_)
   exact s_rt1 rfl HF rfl (is_no (fun e => hd25 (by rw [e])) HM.below)
  have hd25 := bne_eq_false_iff_eq.1 hb25
  refine s_cf HF (wp_skip (qa ?_))
  refine fp HF 2 0 [(16, vI (IntKind.i64.wrap ((k : Int) + 1)))] fun a HF => ?_
  replace HF := HF.sp 16 (vI (k + 1 : Nat)) rfl (qc (by omega) (by omega))
  refine fp HF 1 2 [(5, vI (k + 1 : Nat))] fun a HF => ?_
  refine s_d0 ?_
  exact ⟨_, (by omega), k + 1, by omega, qcu hu (hd25), rfl, HF.sub (by kernel_rfl), HM.pk []⟩
 have hd14 := of_decide_eq_false hb14
 refine s_cf HF (wp_exit (s_fs1 ?_))
 refine fp HF 1 0 [(4, .bool true)] fun a HF => ?_
 refine s_d0 (wp_ret ?_)
 exact s_rt1 rfl HF rfl (qhk (qcs 0 hlm (fun i hi => hu i (by omega))) HM.below)
theorem qt2 (s z : Snm) (w : World) (hx : StRd w s.st) (hz : StRd w z.st) (hf : StFew s.st) (hg : StFew z.st) :
    Calls Tryz.prog 32 #[.agg s.cells, .agg z.cells] w (Is w (.bool (decide (SnEq s z)))) := by
 have hfs_ := hf.s; have hfg_ := hf.g; have hft_ := hf.t
 refine s_ce Tryz.func32 [.agg s.cells, .agg z.cells] [(0, .agg s.cells), (1, .agg z.cells)] fun a HF => ?_
 have HM := Mem.start w
 refine s_fs1 ?_
 refine fo HF 0 rfl rfl (s_eb HF HM s.cells ?_)
 clear HF HM; intro a w2 g2 HF HM
 refine fo HF 1 rfl rfl (s_eb HF HM z.cells ?_)
 clear HF HM; intro a w3 g3 HF HM
 refine fp HF 1 2 [(4, .bool false)] fun a HF => ?_
 refine s_d0 ?_
 refine qa3 (fun aS wS => ∃ (g5 : Nat) (g6 : Nat), Fr aS 169 [] [(6, vP g6 0), (5, vP g5 0), (4, .bool false), (3, vP g3 0), (2, vP g2 0)] ∧ Mem w wS [.blk g6 z.st.cells 30, .blk g5 s.st.cells 30, .blk g3 z.cells 56, .blk g2 s.cells 56]) ?_ ?_
 ·
  refine za HM [.blk g3 z.cells 56, .blk g2 s.cells 56] [0, 1] [7] fun HM HS => ?_
  refine ap HF (fun _ => HS) [0, 2] (bf 8 [0, 2]) [(13, vP g3 1), (11, vP g2 1)] fun a HF => ?_
  refine s_az HF HS 1 rfl (v := .agg #[vI s.st.cpus, vQ s.st.credit, .slice s.st.gA s.st.gs.length s.st.gc, .slice s.st.lA s.st.cl.length s.st.lc, .slice s.st.uA s.st.cu.length s.st.uc, .slice s.st.tA s.st.ts.length s.st.tc, .slice s.st.sA s.st.rs.length s.st.sc]) (Yl.qt rfl rfl si_st rfl (fun _ h => h.sub (i := 1) rfl 1 rfl)) fun a HF => ?_
  replace HF := HF.sp 12 (.agg s.st.cells) rfl (rfl)
  refine s_az HF HS 3 rfl (v := .agg #[vI z.st.cpus, vQ z.st.credit, .slice z.st.gA z.st.gs.length z.st.gc, .slice z.st.lA z.st.cl.length z.st.lc, .slice z.st.uA z.st.cu.length z.st.uc, .slice z.st.tA z.st.ts.length z.st.tc, .slice z.st.sA z.st.rs.length z.st.sc]) (Yl.qt rfl rfl si_st rfl (fun _ h => h.sub (i := 0) rfl 1 rfl)) fun a HF => ?_
  replace HF := HF.sp 14 (.agg z.st.cells) rfl (rfl)
  refine qe [4, 5] (by kernel_rfl) rfl ?_
  refine all_cons ?_ ?_
  ·refine qf HF (i := 4) rfl rfl ?_
   refine s_ea HF HM #[vI 0, vQ 0, .slice none 0 0, .slice none 0 0, .slice none 0 0, .slice none 0 0, .slice none 0 0] ?_
   clear HF HM; intro a w5 g5 HF HM
   refine keepS (HM.pk [1, 2]) (fun HS => ?_)
   refine qe [5] (by kernel_rfl) rfl ?_
   refine all_cons ?_ all_nil
   refine qf HF (i := 5) rfl rfl ?_
   refine s_ea HF HM #[vI 0, vQ 0, .slice none 0 0, .slice none 0 0, .slice none 0 0, .slice none 0 0, .slice none 0 0] ?_
   clear HF HM; intro a w6 g6 HF HM
   refine keepS (HM.pk [2, 3]) (fun HS => ?_)
   refine qe [6] (by kernel_rfl) rfl ?_
   refine all_cons ?_ all_nil
   refine qf HF (i := 6) rfl rfl ?_
   refine e_sa HF HM 1 rfl rfl rfl rfl rfl si_st rfl rfl (qgb s.st) ?_
   clear HM; intro w1_6 HM
   refine keepS (HM.pk [2, 3]) (fun HS => ?_)
   refine qe [7] (by kernel_rfl) rfl ?_
   refine all_cons ?_ all_nil
   refine qf HF (i := 7) rfl rfl ?_
   refine e_sa HF HM 0 rfl rfl rfl rfl rfl si_st rfl rfl (qgb z.st) ?_
   clear HM; intro w1_7 HM
   refine noS (by kernel_rfl) ?_
   refine qk (by kernel_rfl) ?_
   exact ⟨g5, g6, HF.sub (by kernel_rfl), HM.pk [0, 1, 2, 3]⟩
  refine all_cons ?_ all_nil
  refine qf HF (i := 5) rfl rfl ?_
  refine s_ea HF HM #[vI 0, vQ 0, .slice none 0 0, .slice none 0 0, .slice none 0 0, .slice none 0 0, .slice none 0 0] ?_
  clear HF HM; intro a w6 g6 HF HM
  refine keepS (HM.pk [1, 2]) (fun HS => ?_)
  refine qe [4] (by kernel_rfl) rfl ?_
  refine all_cons ?_ all_nil
  refine qf HF (i := 4) rfl rfl ?_
  refine s_ea HF HM #[vI 0, vQ 0, .slice none 0 0, .slice none 0 0, .slice none 0 0, .slice none 0 0, .slice none 0 0] ?_
  clear HF HM; intro a w5 g5 HF HM
  refine keepS (HM.pk [2, 3]) (fun HS => ?_)
  refine qe [6] (by kernel_rfl) rfl ?_
  refine all_cons ?_ all_nil
  refine qf HF (i := 6) rfl rfl ?_
  refine e_sa HF HM 0 rfl rfl rfl rfl rfl si_st rfl rfl (qgb s.st) ?_
  clear HM; intro w1_6 HM
  refine keepS (HM.pk [2, 3]) (fun HS => ?_)
  refine qe [7] (by kernel_rfl) rfl ?_
  refine all_cons ?_ all_nil
  refine qf HF (i := 7) rfl rfl ?_
  refine e_sa HF HM 1 rfl rfl rfl rfl rfl si_st rfl rfl (qgb z.st) ?_
  clear HM; intro w1_7 HM
  refine noS (by kernel_rfl) ?_
  refine qk (by kernel_rfl) ?_
  exact ⟨g5, g6, HF.sub (by kernel_rfl), HM.pk [1, 0, 2, 3]⟩
 clear HF HM; rintro a w1 ⟨g5, g6, HF, HM⟩
 refine wp_seq (s_fs1 ?_)
 refine fp HF 1 0 [(15, vP g2 0)] fun a HF => ?_
 refine s_fz HF HM 1 rfl (v := vI s.next) (Yl.qd rfl rfl (by kernel_rfl) (fun _ h => h.cell (i := 3) rfl (rfl))) fun a HF => ?_
 refine fp HF 1 2 [(17, vP g3 0)] fun a HF => ?_
 refine s_fz HF HM 3 rfl (v := vI z.next) (Yl.qd rfl rfl (by kernel_rfl) (fun _ h => h.cell (i := 2) rfl (rfl))) fun a HF => ?_
 refine fp HF 2 4 [(20, .bool ((s.next : Int) != (z.next : Int)))] fun a HF => ?_
 rcases HF.tf 20 rfl with ⟨hb20, HF⟩ | ⟨hb20, HF⟩
 ·
  have hd20 := bne_iff_ne.1 hb20
  refine fp HF 62 6 [(82, .bool true)] fun a HF => ?_
  refine s_d0 (s_ct HF (s_fs1 ?_))
  refine fp HF 1 0 [(4, .bool false)] fun a HF => ?_
  refine s_d0 (wp_ret ?_)
  exact s_rt1 rfl HF rfl (is_no (p := SnEq s z) (fun e => hd20 e.1) HM.below)
 have hd20 := bne_eq_false_iff_eq.1 hb20
 refine fp HF 2 6 [(22, vP g5 0)] fun a HF => ?_
 refine s_fz HF HM 8 rfl (v := vI s.st.cpus) (Yl.qd rfl rfl (by kernel_rfl) (fun _ h => h.cell (i := 1) rfl (rfl))) fun a HF => ?_
 refine fp HF 2 9 [(25, vP g6 0)] fun a HF => ?_
 refine s_fz HF HM 11 rfl (v := vI z.st.cpus) (Yl.qd rfl rfl (by kernel_rfl) (fun _ h => h.cell (i := 0) rfl (rfl))) fun a HF => ?_
 refine fp HF 3 12 [(29, .bool ((s.st.cpus : Int) != (z.st.cpus : Int)))] fun a HF => ?_
 rcases HF.tf 29 rfl with ⟨hb29, HF⟩ | ⟨hb29, HF⟩
 ·
  have hd29 := bne_iff_ne.1 hb29
  refine fp HF 53 15 [(82, .bool true)] fun a HF => ?_
  refine s_d0 (s_ct HF (s_fs1 ?_))
  refine fp HF 1 0 [(4, .bool false)] fun a HF => ?_
  refine s_d0 (wp_ret ?_)
  exact s_rt1 rfl HF rfl (is_no (p := SnEq s z) (fun e => hd29 e.2.1) HM.below)
 have hd29 := bne_eq_false_iff_eq.1 hb29
 refine fp HF 2 15 [(31, vP g5 1)] fun a HF => ?_
 refine s_fz HF HM 17 rfl (v := vQ s.st.credit) (Yl.qd rfl rfl (by kernel_rfl) (fun _ h => h.cell (i := 1) rfl (rfl))) fun a HF => ?_
 refine fp HF 2 18 [(34, vP g6 1)] fun a HF => ?_
 refine s_fz HF HM 20 rfl (v := vQ z.st.credit) (Yl.qd rfl rfl (by kernel_rfl) (fun _ h => h.cell (i := 0) rfl (rfl))) fun a HF => ?_
 refine fp HF 3 21 [(38, .bool ((s.st.credit : Int) != (z.st.credit : Int)))] fun a HF => ?_
 rcases HF.tf 38 rfl with ⟨hb38, HF⟩ | ⟨hb38, HF⟩
 ·
  have hd38 := bne_iff_ne.1 hb38
  refine fp HF 44 24 [(82, .bool true)] fun a HF => ?_
  refine s_d0 (s_ct HF (s_fs1 ?_))
  refine fp HF 1 0 [(4, .bool false)] fun a HF => ?_
  refine s_d0 (wp_ret ?_)
  exact s_rt1 rfl HF rfl (is_no (p := SnEq s z) (fun e => hd38 (by rw [e.2.2.1])) HM.below)
 have hd38 := bne_eq_false_iff_eq.1 hb38
 refine fp HF 2 24 [(40, vP g5 2)] fun a HF => ?_
 refine s_fz HF HM 26 rfl (v := .slice s.st.gA s.st.gs.length s.st.gc) (Yl.qd rfl rfl (by kernel_rfl) (fun _ h => h.cell (i := 1) rfl (rfl))) fun a HF => ?_
 refine s_fl HF 27 fun a HF => ?_
 refine fp HF 2 28 [(44, vP g6 2)] fun a HF => ?_
 refine s_fz HF HM 30 rfl (v := .slice z.st.gA z.st.gs.length z.st.gc) (Yl.qd rfl rfl (by kernel_rfl) (fun _ h => h.cell (i := 0) rfl (rfl))) fun a HF => ?_
 refine s_fl HF 31 fun a HF => ?_
 refine fp HF 3 32 [(49, .bool ((s.st.gs.length : Int) != (z.st.gs.length : Int)))] fun a HF => ?_
 rcases HF.tf 49 rfl with ⟨hb49, HF⟩ | ⟨hb49, HF⟩
 ·
  have hd49 := bne_iff_ne.1 hb49
  refine fp HF 33 35 [(82, .bool true)] fun a HF => ?_
  refine s_d0 (s_ct HF (s_fs1 ?_))
  refine fp HF 1 0 [(4, .bool false)] fun a HF => ?_
  refine s_d0 (wp_ret ?_)
  exact s_rt1 rfl HF rfl (is_no (p := SnEq s z) (fun e => hd49 (by rw [e.2.2.2.1])) HM.below)
 have hd49 := bne_eq_false_iff_eq.1 hb49
 refine fp HF 1 35 [(50, vP g5 5)] fun a HF => ?_
 refine s_fz HF HM 36 rfl (v := .slice s.st.tA s.st.ts.length s.st.tc) (Yl.qd rfl rfl (by kernel_rfl) (fun _ h => h.cell (i := 1) rfl (rfl))) fun a HF => ?_
 refine s_fl HF 37 fun a HF => ?_
 refine fp HF 1 38 [(53, vP g6 5)] fun a HF => ?_
 refine s_fz HF HM 39 rfl (v := .slice z.st.tA z.st.ts.length z.st.tc) (Yl.qd rfl rfl (by kernel_rfl) (fun _ h => h.cell (i := 0) rfl (rfl))) fun a HF => ?_
 refine s_fl HF 40 fun a HF => ?_
 refine fp HF 3 41 [(58, .bool ((s.st.ts.length : Int) != (z.st.ts.length : Int)))] fun a HF => ?_
 rcases HF.tf 58 rfl with ⟨hb58, HF⟩ | ⟨hb58, HF⟩
 ·
  have hd58 := bne_iff_ne.1 hb58
  refine fp HF 24 44 [(82, .bool true)] fun a HF => ?_
  refine s_d0 (s_ct HF (s_fs1 ?_))
  refine fp HF 1 0 [(4, .bool false)] fun a HF => ?_
  refine s_d0 (wp_ret ?_)
  exact s_rt1 rfl HF rfl (is_no (p := SnEq s z) (fun e => hd58 (by rw [e.2.2.2.2.2.2.1])) HM.below)
 have hd58 := bne_eq_false_iff_eq.1 hb58
 refine fp HF 1 44 [(59, vP g5 6)] fun a HF => ?_
 refine s_fz HF HM 45 rfl (v := .slice s.st.sA s.st.rs.length s.st.sc) (Yl.qd rfl rfl (by kernel_rfl) (fun _ h => h.cell (i := 1) rfl (rfl))) fun a HF => ?_
 refine s_fl HF 46 fun a HF => ?_
 refine fp HF 1 47 [(62, vP g6 6)] fun a HF => ?_
 refine s_fz HF HM 48 rfl (v := .slice z.st.sA z.st.rs.length z.st.sc) (Yl.qd rfl rfl (by kernel_rfl) (fun _ h => h.cell (i := 0) rfl (rfl))) fun a HF => ?_
 refine s_fl HF 49 fun a HF => ?_
 refine fp HF 3 50 [(67, .bool ((s.st.rs.length : Int) != (z.st.rs.length : Int)))] fun a HF => ?_
 rcases HF.tf 67 rfl with ⟨hb67, HF⟩ | ⟨hb67, HF⟩
 ·
  have hd67 := bne_iff_ne.1 hb67
  refine fp HF 15 53 [(82, .bool true)] fun a HF => ?_
  refine s_d0 ?_
  replace HF := HF.to [(82, .bool true), (6, vP g6 0), (5, vP g5 0), (4, .bool false), (3, vP g3 0), (2, vP g2 0)]
  refine s_ct HF (s_fs1 ?_)
  refine fp HF 1 0 [(4, .bool false)] fun a HF => ?_
  refine s_d0 (wp_ret ?_)
  exact s_rt1 rfl HF rfl (is_no (p := SnEq s z) (fun e => hd67 (by rw [qeu e.2.2.2.2.2.2.2])) HM.below)
 have hd67 := bne_eq_false_iff_eq.1 hb67
 refine fp HF 1 53 [(68, vP g5 3)] fun a HF => ?_
 refine s_fz HF HM 54 rfl (v := .slice s.st.lA s.st.cl.length s.st.lc) (Yl.qd rfl rfl (by kernel_rfl) (fun _ h => h.cell (i := 1) rfl (rfl))) fun a HF => ?_
 refine fp HF 1 55 [(70, vP g6 3)] fun a HF => ?_
 refine s_fz HF HM 56 rfl (v := .slice z.st.lA z.st.cl.length z.st.lc) (Yl.qd rfl rfl (by kernel_rfl) (fun _ h => h.cell (i := 0) rfl (rfl))) fun a HF => ?_
 refine fo HF 57 rfl rfl ?_
 refine e_cl HF [.slice s.st.lA s.st.cl.length s.st.lc, .slice z.st.lA z.st.cl.length z.st.lc] rfl rfl (qon s.st.lA s.st.lc s.st.cl z.st.lA z.st.lc z.st.cl _ (HM.old hx.l) (HM.old hz.l) hf.l hg.l) ?_
 rintro _ w72 ⟨rfl, hbw⟩
 refine ⟨_, rfl, ?_⟩
 replace HM := HM.call hbw
 clear HF; intro a HF
 refine fp HF 3 58 [(75, .bool (!(decide (s.st.cl = z.st.cl))))] fun a HF => ?_
 rcases HF.tf 75 rfl with ⟨hb75, HF⟩ | ⟨hb75, HF⟩
 ·
  have hd75 := of_decide_eq_false ((Bool.not_eq_true' _).mp hb75)
  refine fp HF 7 61 [(82, .bool true)] fun a HF => ?_
  refine s_d0 ?_
  replace HF := HF.to [(82, .bool true), (6, vP g6 0), (5, vP g5 0), (4, .bool false), (3, vP g3 0), (2, vP g2 0)]
  refine s_ct HF (s_fs1 ?_)
  refine fp HF 1 0 [(4, .bool false)] fun a HF => ?_
  refine s_d0 (wp_ret ?_)
  exact s_rt1 rfl HF rfl (is_no (p := SnEq s z) (fun e => by simp [e.2.2.2.2.1] at hb75) HM.below)
 have hd75 := of_decide_eq_true ((Bool.not_eq_false' _).mp hb75)
 refine fp HF 1 61 [(76, vP g5 4)] fun a HF => ?_
 refine s_fz HF HM 62 rfl (v := .slice s.st.uA s.st.cu.length s.st.uc) (Yl.qd rfl rfl (by kernel_rfl) (fun _ h => h.cell (i := 1) rfl (rfl))) fun a HF => ?_
 refine fp HF 1 63 [(78, vP g6 4)] fun a HF => ?_
 refine s_fz HF HM 64 rfl (v := .slice z.st.uA z.st.cu.length z.st.uc) (Yl.qd rfl rfl (by kernel_rfl) (fun _ h => h.cell (i := 0) rfl (rfl))) fun a HF => ?_
 refine fo HF 65 rfl rfl ?_
 refine e_cl HF [.slice s.st.uA s.st.cu.length s.st.uc, .slice z.st.uA z.st.cu.length z.st.uc] rfl rfl (qon s.st.uA s.st.uc s.st.cu z.st.uA z.st.uc z.st.cu _ (HM.old hx.u) (HM.old hz.u) hf.u hg.u) ?_
 rintro _ w80 ⟨rfl, hbw⟩
 refine ⟨_, rfl, ?_⟩
 replace HM := HM.call hbw
 clear HF; intro a HF
 refine fp HF 2 66 [(82, .bool (!(decide (s.st.cu = z.st.cu))))] fun a HF => ?_
 refine s_d0 ?_
 replace HF := HF.to [(82, .bool (!(decide (s.st.cu = z.st.cu)))), (6, vP g6 0), (5, vP g5 0), (4, .bool false), (3, vP g3 0), (2, vP g2 0)]
 rcases HF.tf 82 rfl with ⟨hb82, HF⟩ | ⟨hb82, HF⟩
 ·
  have hd82 := of_decide_eq_false ((Bool.not_eq_true' _).mp hb82)
  refine s_ct HF (s_fs1 ?_)
  refine fp HF 1 0 [(4, .bool false)] fun a HF => ?_
  refine s_d0 (wp_ret ?_)
  exact s_rt1 rfl HF rfl (is_no (p := SnEq s z) (fun e => by simp [e.2.2.2.2.2.1] at hb82) HM.below)
 have hd82 := of_decide_eq_true ((Bool.not_eq_false' _).mp hb82)
 have hcl : s.st.cl = z.st.cl := by simpa using hb75
 have hcu : s.st.cu = z.st.cu := by simpa using hb82
 refine s_cf HF (wp_skip (wp_seq (s_fs1 ?_)))
 refine fp HF 1 0 [(7, vI 0)] fun a HF => ?_
 refine s_d0 (wp_block ?_)
 refine qi (fun mS aS wS => ∃ (i : Nat), (i ≤ s.st.gs.length) ∧ (∀ n, n < i → s.st.gs.getD n Gr.zero = z.st.gs.getD n Gr.zero) ∧ mS = s.st.gs.length - i ∧ Fr aS 169 [] [(7, vI i), (82, .bool false), (6, vP g6 0), (5, vP g5 0), (4, .bool false), (3, vP g3 0), (2, vP g2 0)] ∧ Mem w wS [.blk g6 z.st.cells 30, .blk g5 s.st.cells 30, .blk g3 z.cells 56, .blk g2 s.cells 56]) (m := s.st.gs.length - 0) ⟨0, Nat.zero_le _, qct, rfl, HF.sub (by kernel_rfl), HM.pk [0, 1, 2, 3]⟩ ?_
 clear HF HM; rintro mS a w_ ⟨i, hk, hu, rfl, HF, HM⟩
 refine wp_seq (s_fs1 ?_)
 refine fp HF 3 0 [(85, vP g5 2), (83, vI i)] fun a HF => ?_
 refine s_fz HF HM 3 rfl (v := .slice s.st.gA s.st.gs.length s.st.gc) (Yl.qd rfl rfl (by kernel_rfl) (fun _ h => h.cell (i := 1) rfl (rfl))) fun a HF => ?_
 refine s_fl HF 4 fun a HF => ?_
 refine fp HF 1 5 [(88, .bool (decide ((i : Int) < (s.st.gs.length : Int))))] fun a HF => ?_
 refine s_d0 ?_
 rcases HF.tf 88 rfl with ⟨hb88, HF⟩ | ⟨hb88, HF⟩
 ·
  have hd88 := of_decide_eq_true hb88
  have hk1 : i < s.st.gs.length := by omega
  have hk2 : i < z.st.gs.length := by omega
  obtain ⟨gq1, oq1, hq1, _⟩ := Rd.qj hx.g (Nat.lt_of_le_of_lt (Nat.zero_le _) (show i < s.st.gs.length from hk1)) (by decide)
  have hrq1 := hx.g; rw [hq1] at hrq1
  obtain ⟨gq2, oq2, hq2, _⟩ := Rd.qj hz.g (Nat.lt_of_le_of_lt (Nat.zero_le _) (show i < z.st.gs.length from hk2)) (by decide)
  have hrq2 := hz.g; rw [hq2] at hrq2
  refine s_ct HF (wp_skip (wp_seq (wp_block (wp_seq ?_))))
  refine za HM [.blk g6 z.st.cells 30, .blk g5 s.st.cells 30, .blk g3 z.cells 56, .blk g2 s.cells 56] [0, 1, 2, 3] [] fun HM HS => ?_
  refine ap HF (fun _ => HS) [0, 1, 3, 6, 7, 9] (bf 13 [0, 1, 3, 6, 7, 9]) [(100, vI i), (98, vP g6 2), (94, vI i), (92, vP g5 2)] fun a HF => ?_
  refine s_az HF HS 2 rfl (v := .slice s.st.gA s.st.gs.length s.st.gc) (Yl.qd rfl rfl (by kernel_rfl) (fun _ h => h.cell (i := 1) rfl (rfl))) fun a HF => ?_
  replace HF := HF.sp 93 (.slice (some ⟨gq1, oq1, none⟩) s.st.gs.length s.st.gc) rfl (by rw [hq1]; try rfl)
  refine s_az HF HS 4 rfl (v := vP gq1 (oq1 + i * 2)) (Yl.ix gq1 oq1 i 2 rfl rfl rfl) fun a HF => ?_
  refine s_az HF HS 5 rfl (v := .agg ((s.st.gs.getD i Gr.zero).cells)) (Yl.qt rfl rfl si_gr rfl (fun _ h => (h.old hrq1).q9 zo ((getD_at Gr.zero hk1)))) fun a HF => ?_
  refine s_az HF HS 8 rfl (v := .slice z.st.gA z.st.gs.length z.st.gc) (Yl.qd rfl rfl (by kernel_rfl) (fun _ h => h.cell (i := 0) rfl (rfl))) fun a HF => ?_
  replace HF := HF.sp 99 (.slice (some ⟨gq2, oq2, none⟩) z.st.gs.length z.st.gc) rfl (by rw [hq2]; try rfl)
  refine s_az HF HS 10 rfl (v := vP gq2 (oq2 + i * 2)) (Yl.ix gq2 oq2 i 2 rfl rfl rfl) fun a HF => ?_
  refine s_az HF HS 11 rfl (v := .agg ((z.st.gs.getD i Gr.zero).cells)) (Yl.qt rfl rfl si_gr rfl (fun _ h => (h.old hrq2).q9 zo ((getD_at Gr.zero hk2)))) fun a HF => ?_
  refine s_az HF HS 12 rfl (v := .bool (!(decide ((s.st.gs.getD i Gr.zero) = (z.st.gs.getD i Gr.zero))))) (Yl.qld rfl rfl rfl (qmv (s.st.gs.getD i Gr.zero) (z.st.gs.getD i Gr.zero))) fun a HF => ?_
  refine qk (by kernel_rfl) ?_
  rcases HF.tf 103 rfl with ⟨hb103, HF⟩ | ⟨hb103, HF⟩
  ·
   have hd103 := of_decide_eq_false ((Bool.not_eq_true' _).mp hb103)
   refine s_ct HF (s_fs1 ?_)
   refine fp HF 1 0 [(4, .bool false)] fun a HF => ?_
   refine s_d0 (wp_ret ?_)
   exact s_rt1 rfl HF rfl (is_no (p := SnEq s z) (fun e => hd103 (by rw [e.2.2.2.1])) HM.below)
  have hd103 := of_decide_eq_true ((Bool.not_eq_false' _).mp hb103)
  refine s_cf HF (wp_skip (qa ?_))
  refine fp HF 2 0 [(90, vI (IntKind.i64.wrap ((i : Int) + 1)))] fun a HF => ?_
  replace HF := HF.sp 90 (vI (i + 1 : Nat)) rfl (qc (by omega) (by omega))
  refine fp HF 1 2 [(7, vI (i + 1 : Nat))] fun a HF => ?_
  refine s_d0 ?_
  exact ⟨_, (by omega), i + 1, by omega, qcu hu hd103, rfl, HF.sub (by kernel_rfl), HM.pk [0, 1, 2, 3]⟩
 have hd88 := of_decide_eq_false hb88
 have hgs : s.st.gs = z.st.gs := qcs Gr.zero (by omega) (fun n hn => hu n (by omega))
 refine s_cf HF (wp_exit (wp_seq (s_fs1 ?_)))
 refine fp HF 1 0 [(8, vI 0)] fun a HF => ?_
 refine s_d0 (wp_block ?_)
 refine qi (fun mS aS wS => ∃ (j : Nat), (j ≤ s.st.ts.length) ∧ (∀ n, n < j → s.st.ts.getD n Tk.zero = z.st.ts.getD n Tk.zero) ∧ mS = s.st.ts.length - j ∧ Fr aS 169 [] [(8, vI j), (88, .bool false), (7, vI i), (82, .bool false), (6, vP g6 0), (5, vP g5 0), (4, .bool false), (3, vP g3 0), (2, vP g2 0)] ∧ Mem w wS [.blk g6 z.st.cells 30, .blk g5 s.st.cells 30, .blk g3 z.cells 56, .blk g2 s.cells 56]) (m := s.st.ts.length - 0) ⟨0, Nat.zero_le _, qct, rfl, HF.sub (by kernel_rfl), HM.pk [0, 1, 2, 3]⟩ ?_
 clear HF HM; rintro mS a w_ ⟨j, hk, hu, rfl, HF, HM⟩
 refine wp_seq (s_fs1 ?_)
 refine fp HF 2 0 [(105, vP g5 5), (104, vI j)] fun a HF => ?_
 refine s_fz HF HM 2 rfl (v := .slice s.st.tA s.st.ts.length s.st.tc) (Yl.qd rfl rfl (by kernel_rfl) (fun _ h => h.cell (i := 1) rfl (rfl))) fun a HF => ?_
 refine s_fl HF 3 fun a HF => ?_
 refine fp HF 1 4 [(108, .bool (decide ((j : Int) < (s.st.ts.length : Int))))] fun a HF => ?_
 refine s_d0 ?_
 rcases HF.tf 108 rfl with ⟨hb108, HF⟩ | ⟨hb108, HF⟩
 ·
  have hd108 := of_decide_eq_true hb108
  have hk1 : j < s.st.ts.length := by omega
  have hk2 : j < z.st.ts.length := by omega
  obtain ⟨gq3, oq3, hq3, _⟩ := Rd.qj hx.t (Nat.lt_of_le_of_lt (Nat.zero_le _) (show j < s.st.ts.length from hk1)) (by decide)
  have hrq3 := hx.t; rw [hq3] at hrq3
  obtain ⟨gq4, oq4, hq4, _⟩ := Rd.qj hz.t (Nat.lt_of_le_of_lt (Nat.zero_le _) (show j < z.st.ts.length from hk2)) (by decide)
  have hrq4 := hz.t; rw [hq4] at hrq4
  refine s_ct HF (wp_skip (wp_seq (wp_block (wp_seq ?_))))
  refine za HM [.blk g6 z.st.cells 30, .blk g5 s.st.cells 30, .blk g3 z.cells 56, .blk g2 s.cells 56] [0, 1, 2, 3] [] fun HM HS => ?_
  refine ap HF (fun _ => HS) [0, 2, 5, 7] (bf 11 [0, 2, 5, 7]) [(118, vI j), (116, vP g6 5), (113, vI j), (111, vP g5 5)] fun a HF => ?_
  refine s_az HF HS 1 rfl (v := .slice s.st.tA s.st.ts.length s.st.tc) (Yl.qd rfl rfl (by kernel_rfl) (fun _ h => h.cell (i := 1) rfl (rfl))) fun a HF => ?_
  replace HF := HF.sp 112 (.slice (some ⟨gq3, oq3, none⟩) s.st.ts.length s.st.tc) rfl (by rw [hq3]; try rfl)
  refine s_az HF HS 3 rfl (v := vP gq3 (oq3 + j * 8)) (Yl.ix gq3 oq3 j 8 rfl rfl rfl) fun a HF => ?_
  refine s_az HF HS 4 rfl (v := .agg ((s.st.ts.getD j Tk.zero).cells)) (Yl.qt rfl rfl si_tk rfl (fun _ h => (h.old hrq3).q9 zw ((getD_at Tk.zero hk1)))) fun a HF => ?_
  refine s_az HF HS 6 rfl (v := .slice z.st.tA z.st.ts.length z.st.tc) (Yl.qd rfl rfl (by kernel_rfl) (fun _ h => h.cell (i := 0) rfl (rfl))) fun a HF => ?_
  replace HF := HF.sp 117 (.slice (some ⟨gq4, oq4, none⟩) z.st.ts.length z.st.tc) rfl (by rw [hq4]; try rfl)
  refine s_az HF HS 8 rfl (v := vP gq4 (oq4 + j * 8)) (Yl.ix gq4 oq4 j 8 rfl rfl rfl) fun a HF => ?_
  refine s_az HF HS 9 rfl (v := .agg ((z.st.ts.getD j Tk.zero).cells)) (Yl.qt rfl rfl si_tk rfl (fun _ h => (h.old hrq4).q9 zw ((getD_at Tk.zero hk2)))) fun a HF => ?_
  refine s_az HF HS 10 rfl (v := .bool (!(decide ((s.st.ts.getD j Tk.zero) = (z.st.ts.getD j Tk.zero))))) (Yl.qld rfl rfl rfl (qva (s.st.ts.getD j Tk.zero) (z.st.ts.getD j Tk.zero))) fun a HF => ?_
  refine qk (by kernel_rfl) ?_
  rcases HF.tf 121 rfl with ⟨hb121, HF⟩ | ⟨hb121, HF⟩
  ·
   have hd121 := of_decide_eq_false ((Bool.not_eq_true' _).mp hb121)
   refine s_ct HF (s_fs1 ?_)
   refine fp HF 1 0 [(4, .bool false)] fun a HF => ?_
   refine s_d0 (wp_ret ?_)
   exact s_rt1 rfl HF rfl (is_no (p := SnEq s z) (fun e => hd121 (by rw [e.2.2.2.2.2.2.1])) HM.below)
  have hd121 := of_decide_eq_true ((Bool.not_eq_false' _).mp hb121)
  refine s_cf HF (wp_skip (qa ?_))
  refine fp HF 2 0 [(110, vI (IntKind.i64.wrap ((j : Int) + 1)))] fun a HF => ?_
  replace HF := HF.sp 110 (vI (j + 1 : Nat)) rfl (qc (by omega) (by omega))
  refine fp HF 1 2 [(8, vI (j + 1 : Nat))] fun a HF => ?_
  refine s_d0 ?_
  exact ⟨_, (by omega), j + 1, by omega, qcu hu hd121, rfl, HF.sub (by kernel_rfl), HM.pk [0, 1, 2, 3]⟩
 have hd108 := of_decide_eq_false hb108
 have hts : s.st.ts = z.st.ts := qcs Tk.zero (by omega) (fun n hn => hu n (by omega))
 refine s_cf HF (wp_exit (wp_seq (s_fs1 ?_)))
 refine fp HF 1 0 [(9, vI 0)] fun a HF => ?_
 refine s_d0 (wp_block ?_)
 refine qi (fun mS aS wS => ∃ (k : Nat), (k ≤ s.st.rs.length) ∧ (∀ i, i < k → (s.st.rs.getD i Rw.zero).l = (z.st.rs.getD i Rw.zero).l) ∧ mS = s.st.rs.length - k ∧ Fr aS 169 [] [(9, vI k), (108, .bool false), (8, vI j), (88, .bool false), (7, vI i), (82, .bool false), (6, vP g6 0), (5, vP g5 0), (4, .bool false), (3, vP g3 0), (2, vP g2 0)] ∧ Mem w wS [.blk g6 z.st.cells 30, .blk g5 s.st.cells 30, .blk g3 z.cells 56, .blk g2 s.cells 56]) (m := s.st.rs.length - 0) ⟨0, Nat.zero_le _, qct, rfl, HF.sub (by kernel_rfl), HM.pk [0, 1, 2, 3]⟩ ?_
 clear HF HM; rintro mS a w_ ⟨k, hk, hu, rfl, HF, HM⟩
 refine wp_seq (s_fs1 ?_)
 refine fp HF 2 0 [(123, vP g5 6), (122, vI k)] fun a HF => ?_
 refine s_fz HF HM 2 rfl (v := .slice s.st.sA s.st.rs.length s.st.sc) (Yl.qd rfl rfl (by kernel_rfl) (fun _ h => h.cell (i := 1) rfl (rfl))) fun a HF => ?_
 refine s_fl HF 3 fun a HF => ?_
 refine fp HF 1 4 [(126, .bool (decide ((k : Int) < (s.st.rs.length : Int))))] fun a HF => ?_
 refine s_d0 ?_
 rcases HF.tf 126 rfl with ⟨hb126, HF⟩ | ⟨hb126, HF⟩
 ·
  have hd126 := of_decide_eq_true hb126
  have hk1 : k < s.st.rs.length := by omega
  have hk2 : k < z.st.rs.length := by omega
  obtain ⟨gq5, oq5, hq5, _⟩ := Rd.qj hx.s (Nat.lt_of_le_of_lt (Nat.zero_le _) (show k < s.st.rs.length from hk1)) (by decide)
  have hrq5 := hx.s; rw [hq5] at hrq5
  obtain ⟨gq6, oq6, hq6, _⟩ := Rd.qj hz.s (Nat.lt_of_le_of_lt (Nat.zero_le _) (show k < z.st.rs.length from hk2)) (by decide)
  have hrq6 := hz.s; rw [hq6] at hrq6
  obtain ⟨x, hx_⟩ : ∃ q, (s.st.rs.getD k Rw.zero) = q := ⟨_, rfl⟩
  obtain ⟨y, hy_⟩ : ∃ q, (z.st.rs.getD k Rw.zero) = q := ⟨_, rfl⟩
  have hxr : Rd w w.heap.size 3 x.A x.l.length (x.l.flatMap spL) := by rw [← hx_]; exact hx.row hk1
  have hyr : Rd w w.heap.size 3 y.A y.l.length (y.l.flatMap spL) := by rw [← hy_]; exact hz.row hk2
  have hxl : x.l.length ≤ 1000000 := by rw [← hx_]; exact hf.r _ (qu Rw.zero hk1)
  have hyl : y.l.length ≤ 1000000 := by rw [← hy_]; exact hg.r _ (qu Rw.zero hk2)
  refine s_ct HF (wp_skip (wp_seq (wp_block (wp_seq (wp_seq ?_)))))
  refine za HM [.blk g6 z.st.cells 30, .blk g5 s.st.cells 30, .blk g3 z.cells 56, .blk g2 s.cells 56] [0, 1, 2, 3] [] fun HM HS => ?_
  refine ap HF (fun _ => HS) [0, 2, 6, 8] (bf 13 [0, 2, 6, 8]) [(137, vI k), (135, vP g6 6), (131, vI k), (129, vP g5 6)] fun a HF => ?_
  refine s_az HF HS 1 rfl (v := .slice s.st.sA s.st.rs.length s.st.sc) (Yl.qd rfl rfl (by kernel_rfl) (fun _ h => h.cell (i := 1) rfl (rfl))) fun a HF => ?_
  replace HF := HF.sp 130 (.slice (some ⟨gq5, oq5, none⟩) s.st.rs.length s.st.sc) rfl (by rw [hq5]; try rfl)
  refine s_az HF HS 3 rfl (v := vP gq5 (oq5 + k * 1)) (Yl.ix gq5 oq5 k 1 rfl rfl rfl) fun a HF => ?_
  refine s_az HF HS 4 rfl (v := .slice ((s.st.rs.getD k Rw.zero).A) ((s.st.rs.getD k Rw.zero).l.length) ((s.st.rs.getD k Rw.zero).c)) (Yl.o1 hrq5 k Rw.zero hk1 rfl rfl) fun a HF => ?_
  replace HF := HF.sp 133 (.slice x.A x.l.length x.c) rfl (by rw [hx_])
  refine s_al HF HS 5 fun a HF => ?_
  refine s_az HF HS 7 rfl (v := .slice z.st.sA z.st.rs.length z.st.sc) (Yl.qd rfl rfl (by kernel_rfl) (fun _ h => h.cell (i := 0) rfl (rfl))) fun a HF => ?_
  replace HF := HF.sp 136 (.slice (some ⟨gq6, oq6, none⟩) z.st.rs.length z.st.sc) rfl (by rw [hq6]; try rfl)
  refine s_az HF HS 9 rfl (v := vP gq6 (oq6 + k * 1)) (Yl.ix gq6 oq6 k 1 rfl rfl rfl) fun a HF => ?_
  refine s_az HF HS 10 rfl (v := .slice ((z.st.rs.getD k Rw.zero).A) ((z.st.rs.getD k Rw.zero).l.length) ((z.st.rs.getD k Rw.zero).c)) (Yl.o1 hrq6 k Rw.zero hk2 rfl rfl) fun a HF => ?_
  replace HF := HF.sp 139 (.slice y.A y.l.length y.c) rfl (by rw [hy_])
  refine s_al HF HS 11 fun a HF => ?_
  refine ap HF (fun _ => HS) [12] (bt 13 []) [(141, .bool ((x.l.length : Int) != (y.l.length : Int)))] fun a HF => ?_
  refine qk (by kernel_rfl) ?_
  rcases HF.tf 141 rfl with ⟨hb141, HF⟩ | ⟨hb141, HF⟩
  ·
   have hd141 := bne_iff_ne.1 hb141
   refine s_ct HF (s_fs1 ?_)
   refine fp HF 1 0 [(4, .bool false)] fun a HF => ?_
   refine s_d0 (wp_ret ?_)
   exact s_rt1 rfl HF rfl (is_no (p := SnEq s z) (fun e => qkf hk1 hk2 (by rw [hx_, hy_]; exact q0x (by omega)) e.2.2.2.2.2.2.2) HM.below)
  have hd141 := bne_eq_false_iff_eq.1 hb141
  refine s_cf HF (wp_skip (s_fs1 ?_))
  refine fp HF 1 0 [(10, vI 0)] fun a HF => ?_
  refine s_d0 (wp_block ?_)
  refine qi (fun mS aS wS => ∃ (c : Nat), (c ≤ x.l.length) ∧ (∀ i, i < c → x.l.getD i Sp.zero = y.l.getD i Sp.zero) ∧ mS = x.l.length - c ∧ Fr aS 169 [] [(10, vI c), (141, .bool false), (126, .bool true), (9, vI k), (108, .bool false), (8, vI j), (88, .bool false), (7, vI i), (82, .bool false), (6, vP g6 0), (5, vP g5 0), (4, .bool false), (3, vP g3 0), (2, vP g2 0)] ∧ Mem w wS [.blk g6 z.st.cells 30, .blk g5 s.st.cells 30, .blk g3 z.cells 56, .blk g2 s.cells 56]) (m := x.l.length - 0) ⟨0, Nat.zero_le _, qct, rfl, HF.sub (by kernel_rfl), HM.pk [0, 1, 2, 3]⟩ ?_
  clear HF HM; rintro mS a w_ ⟨c, hc, hu2, rfl, HF, HM⟩
  refine wp_seq (s_fs1 ?_)
  refine fp HF 2 0 [(143, vP g5 6), (142, vI c)] fun a HF => ?_
  refine s_fz HF HM 2 rfl (v := .slice s.st.sA s.st.rs.length s.st.sc) (Yl.qd rfl rfl (by kernel_rfl) (fun _ h => h.cell (i := 1) rfl (rfl))) fun a HF => ?_
  refine fp HF 1 3 [(145, vI k)] fun a HF => ?_
  replace HF := HF.sp 144 (.slice (some ⟨gq5, oq5, none⟩) s.st.rs.length s.st.sc) rfl (by rw [hq5]; try rfl)
  refine s_fz HF HM 4 rfl (v := vP gq5 (oq5 + k * 1)) (Yl.ix gq5 oq5 k 1 rfl rfl rfl) fun a HF => ?_
  refine s_fz HF HM 5 rfl (v := .slice ((s.st.rs.getD k Rw.zero).A) ((s.st.rs.getD k Rw.zero).l.length) ((s.st.rs.getD k Rw.zero).c)) (Yl.o1 hrq5 k Rw.zero hk1 rfl rfl) fun a HF => ?_
  replace HF := HF.sp 147 (.slice x.A x.l.length x.c) rfl (by rw [hx_])
  refine s_fl HF 6 fun a HF => ?_
  refine fp HF 1 7 [(149, .bool (decide ((c : Int) < (x.l.length : Int))))] fun a HF => ?_
  refine s_d0 ?_
  rcases HF.tf 149 rfl with ⟨hb149, HF⟩ | ⟨hb149, HF⟩
  ·
   have hd149 := of_decide_eq_true hb149
   have hc1 : c < x.l.length := by omega
   have hc2 : c < y.l.length := by omega
   obtain ⟨gq7, oq7, hq7, _⟩ := Rd.qj hxr (Nat.lt_of_le_of_lt (Nat.zero_le _) (show c < x.l.length from hc1)) (by decide)
   have hrq7 := hxr; rw [hq7] at hrq7
   obtain ⟨gq8, oq8, hq8, _⟩ := Rd.qj hyr (Nat.lt_of_le_of_lt (Nat.zero_le _) (show c < y.l.length from hc2)) (by decide)
   have hrq8 := hyr; rw [hq8] at hrq8
   refine s_ct HF (wp_skip (wp_seq (wp_block (wp_seq ?_))))
   refine za HM [.blk g6 z.st.cells 30, .blk g5 s.st.cells 30, .blk g3 z.cells 56, .blk g2 s.cells 56] [0, 1, 2, 3] [] fun HM HS => ?_
   refine ap HF (fun _ => HS) [0, 2, 5, 8, 10, 13] (bf 17 [0, 2, 5, 8, 10, 13]) [(165, vI c), (162, vI k), (160, vP g6 6), (157, vI c), (154, vI k), (152, vP g5 6)] fun a HF => ?_
   refine s_az HF HS 1 rfl (v := .slice s.st.sA s.st.rs.length s.st.sc) (Yl.qd rfl rfl (by kernel_rfl) (fun _ h => h.cell (i := 1) rfl (rfl))) fun a HF => ?_
   replace HF := HF.sp 153 (.slice (some ⟨gq5, oq5, none⟩) s.st.rs.length s.st.sc) rfl (by rw [hq5]; try rfl)
   refine s_az HF HS 3 rfl (v := vP gq5 (oq5 + k * 1)) (Yl.ix gq5 oq5 k 1 rfl rfl rfl) fun a HF => ?_
   refine s_az HF HS 4 rfl (v := .slice ((s.st.rs.getD k Rw.zero).A) ((s.st.rs.getD k Rw.zero).l.length) ((s.st.rs.getD k Rw.zero).c)) (Yl.o1 hrq5 k Rw.zero hk1 rfl rfl) fun a HF => ?_
   replace HF := HF.sp 156 (.slice x.A x.l.length x.c) rfl (by rw [hx_])
   replace HF := HF.sp 156 (.slice (some ⟨gq7, oq7, none⟩) x.l.length x.c) rfl (by rw [hq7]; try rfl)
   refine s_az HF HS 6 rfl (v := vP gq7 (oq7 + c * 3)) (Yl.ix gq7 oq7 c 3 rfl rfl rfl) fun a HF => ?_
   refine s_az HF HS 7 rfl (v := .agg ((x.l.getD c Sp.zero).cells)) (Yl.qt rfl rfl si_sp rfl (fun _ h => (h.old hrq7).q9 qak ((getD_at Sp.zero hc1)))) fun a HF => ?_
   refine s_az HF HS 9 rfl (v := .slice z.st.sA z.st.rs.length z.st.sc) (Yl.qd rfl rfl (by kernel_rfl) (fun _ h => h.cell (i := 0) rfl (rfl))) fun a HF => ?_
   replace HF := HF.sp 161 (.slice (some ⟨gq6, oq6, none⟩) z.st.rs.length z.st.sc) rfl (by rw [hq6]; try rfl)
   refine s_az HF HS 11 rfl (v := vP gq6 (oq6 + k * 1)) (Yl.ix gq6 oq6 k 1 rfl rfl rfl) fun a HF => ?_
   refine s_az HF HS 12 rfl (v := .slice ((z.st.rs.getD k Rw.zero).A) ((z.st.rs.getD k Rw.zero).l.length) ((z.st.rs.getD k Rw.zero).c)) (Yl.o1 hrq6 k Rw.zero hk2 rfl rfl) fun a HF => ?_
   replace HF := HF.sp 164 (.slice y.A y.l.length y.c) rfl (by rw [hy_])
   replace HF := HF.sp 164 (.slice (some ⟨gq8, oq8, none⟩) y.l.length y.c) rfl (by rw [hq8]; try rfl)
   refine s_az HF HS 14 rfl (v := vP gq8 (oq8 + c * 3)) (Yl.ix gq8 oq8 c 3 rfl rfl rfl) fun a HF => ?_
   refine s_az HF HS 15 rfl (v := .agg ((y.l.getD c Sp.zero).cells)) (Yl.qt rfl rfl si_sp rfl (fun _ h => (h.old hrq8).q9 qak ((getD_at Sp.zero hc2)))) fun a HF => ?_
   refine s_az HF HS 16 rfl (v := .bool (!(decide ((x.l.getD c Sp.zero) = (y.l.getD c Sp.zero))))) (Yl.qld rfl rfl rfl (qvb (x.l.getD c Sp.zero) (y.l.getD c Sp.zero))) fun a HF => ?_
   refine qk (by kernel_rfl) ?_
   rcases HF.tf 168 rfl with ⟨hb168, HF⟩ | ⟨hb168, HF⟩
   ·
    have hd168 := of_decide_eq_false ((Bool.not_eq_true' _).mp hb168)
    refine s_ct HF (s_fs1 ?_)
    refine fp HF 1 0 [(4, .bool false)] fun a HF => ?_
    refine s_d0 (wp_ret ?_)
    exact s_rt1 rfl HF rfl (is_no (p := SnEq s z) (fun e => qkf hk1 hk2 (by rw [hx_, hy_]; exact fun h => hd168 (by rw [h])) e.2.2.2.2.2.2.2) HM.below)
   have hd168 := of_decide_eq_true ((Bool.not_eq_false' _).mp hb168)
   refine s_cf HF (wp_skip (qa ?_))
   refine fp HF 2 0 [(151, vI (IntKind.i64.wrap ((c : Int) + 1)))] fun a HF => ?_
   replace HF := HF.sp 151 (vI (c + 1 : Nat)) rfl (qc (by omega) (by omega))
   refine fp HF 1 2 [(10, vI (c + 1 : Nat))] fun a HF => ?_
   refine s_d0 ?_
   exact ⟨_, (by omega), c + 1, by omega, qcu hu2 hd168, rfl, HF.sub (by kernel_rfl), HM.pk [0, 1, 2, 3]⟩
  have hd149 := of_decide_eq_false hb149
  have hxy : x.l = y.l := qcs Sp.zero (by omega) (fun i hi => hu2 i (by omega))
  refine s_cf HF (wp_exit (qa ?_))
  refine fp HF 2 0 [(128, vI (IntKind.i64.wrap ((k : Int) + 1)))] fun a HF => ?_
  replace HF := HF.sp 128 (vI (k + 1 : Nat)) rfl (qc (by omega) (by omega))
  refine fp HF 1 2 [(9, vI (k + 1 : Nat))] fun a HF => ?_
  refine s_d0 ?_
  exact ⟨_, (by omega), k + 1, by omega, qcu (f := fun i => (s.st.rs.getD i Rw.zero).l) (g := fun i => (z.st.rs.getD i Rw.zero).l) hu (by rw [hx_, hy_]; exact hxy), rfl, HF.sub (by kernel_rfl), HM.pk [0, 1, 2, 3]⟩
 have hd126 := of_decide_eq_false hb126
 refine s_cf HF (wp_exit (s_fs1 ?_))
 refine fp HF 1 0 [(4, .bool true)] fun a HF => ?_
 refine s_d0 (wp_ret ?_)
 exact s_rt1 rfl HF rfl (qhk (p := SnEq s z) ⟨hd20, hd29, by omega, hgs, hcl, hcu, hts, qrq (by omega) (fun i hi => hu i (by omega))⟩ HM.below)
theorem zx (A : Option Addr) (c : Nat) (l : List Int) (w : World) (hr : Rd w w.heap.size 1 A l.length (l.map I64i)) (hn : l.length ≤ 1000000) :
    Calls Tryz.prog 37 #[.slice A l.length c] w (qyo w l) := by
 refine s_ce Tryz.func37 [.slice A l.length c] [(0, .slice A l.length c)] fun a HF => ?_
 have HM := Mem.start w
 refine s_fs1 ?_
 refine fp HF 1 0 [(2, .slice none 0 0)] fun a HF => ?_
 refine s_d0 (s_fs1 ?_)
 refine fp HF 1 0 [(3, .slice none 0 0)] fun a HF => ?_
 refine s_d0 (s_fs1 ?_)
 refine fp HF 2 0 [(5, .slice A l.length c), (4, .slice none 0 0)] fun a HF => ?_
 refine fo HF 2 rfl rfl ?_
 replace HM := HM.nil 3 1
 refine qo HF HM (i := 0) rfl qbf rfl rfl rfl (news := (l.map I64i)) (HM.old hr) (qgn _) (by omega) (by omega) rfl (by decide) ?_
 clear HF HM; intro a w6 A6 c6 HF HM hc6
 have hnA6 : 0 + l.length = l.length := Nat.zero_add _
 replace HM := HM.reRow (i := 0) (ys := l.map I64i) rfl hnA6 (rfl)
 rw [hnA6] at hc6
 replace HF := HF.sp 6 (.slice A6 l.length c6) rfl (by rw [hnA6])
 refine fp HF 1 3 [(2, .slice A6 l.length c6)] fun a HF => ?_
 refine s_d0 (wp_ret ?_)
 exact s_rt1 rfl HF rfl (⟨⟨_, _, rfl, HM.own (i := 0) rfl, hc6⟩, HM.below⟩)
theorem zd (x : Stm) (w : World) (hx : StRd w x) (hn : x.gs.length ≤ 1000000) :
    Calls Tryz.prog 36 #[.agg #[.int .i64 x.cpus, .int .u64 (x.credit : Int), .slice x.gA x.gs.length x.gc]] w (q0z w x) := by
 refine s_ce Tryz.func36 [.agg #[vI x.cpus, vQ x.credit, .slice x.gA x.gs.length x.gc]] [(0, .agg #[vI x.cpus, vQ x.credit, .slice x.gA x.gs.length x.gc])] fun a HF => ?_
 have HM := Mem.start w
 refine s_fs1 ?_
 refine fo HF 0 rfl rfl (s_eb HF HM #[vI x.cpus, vQ x.credit, .slice x.gA x.gs.length x.gc] ?_)
 clear HF HM; intro a w1 g1 HF HM
 refine fo HF 1 rfl rfl (s_ea HF HM #[vI 0, vQ 0, .slice none 0 0] ?_)
 clear HF HM; intro a w2 g2 HF HM
 refine s_d0 (s_fs1 ?_)
 refine fp HF 1 0 [(3, .slice none 0 0)] fun a HF => ?_
 refine s_d0 (s_fs1 ?_)
 refine fp HF 2 0 [(5, vP g1 2), (4, .slice none 0 0)] fun a HF => ?_
 refine s_fc HF HM 2 1 fun a HF => ?_
 refine fo HF 3 rfl rfl ?_
 replace HM := HM.nil 40 2
 refine qo HF HM (i := 0) rfl ei_gr rfl rfl rfl (news := (x.gs.flatMap grL)) (HM.old hx.g) (qna _) (by omega) (by omega) rfl (by decide) ?_
 clear HF HM; intro a w7 A7 c7 HF HM hc7
 have hnA7 : 0 + x.gs.length = x.gs.length := Nat.zero_add _
 replace HM := HM.reRow (i := 0) (ys := x.gs.flatMap grL) rfl hnA7 (rfl)
 rw [hnA7] at hc7
 replace HF := HF.sp 7 (.slice A7 x.gs.length c7) rfl (by rw [hnA7])
 refine fp HF 1 4 [(8, vP g1 2)] fun a HF => ?_
 refine fo HF 5 rfl rfl (s_es HF HM 2 ?_)
 clear HM; intro w2_5 HM
 refine s_d0 (s_fs1 ?_)
 refine s_fz HF HM 0 rfl (v := .agg #[vI x.cpus, vQ x.credit, .slice A7 x.gs.length c7]) (Yl.qt rfl rfl qa9 rfl (fun _ h => qg (h.blk (i := 2) rfl))) fun a HF => ?_
 refine fo HF 1 rfl rfl (e_sa HF HM 1 rfl rfl rfl rfl rfl qa9 rfl rfl (by simp [Value.oneCell']) ?_)
 clear HM; intro w3_1 HM
 refine s_d0 (wp_ret ?_)
 exact ret1 rfl HF (.cellS (i := 1) HF HM rfl rfl qa9 rfl) (⟨⟨_, _, rfl, HM.own (i := 0) rfl, hc7⟩, HM.below⟩)
theorem qjb (x : Stm) (w : World) (hx : StRd w x) (hf : StFew x) :
    Calls Tryz.prog 11 #[.agg x.cells] w (q0y w x) := by
 have hfg := hf.g; have hfl := hf.l; have hfu := hf.u; have hft := hf.t; have hfs := hf.s
 refine s_ce Tryz.func11 [.agg x.cells] [(0, .agg x.cells)] fun a HF => ?_
 have HM := Mem.start w
 refine s_fs1 ?_
 refine fo HF 0 rfl rfl (s_eb HF HM x.cells ?_)
 clear HF HM; intro a w1 g1 HF HM
 refine fo HF 1 rfl rfl (s_ea HF HM #[vI 0, vQ 0, .slice none 0 0, .slice none 0 0, .slice none 0 0, .slice none 0 0, .slice none 0 0] ?_)
 clear HF HM; intro a w2 g2 HF HM
 refine s_d0 (s_fs1 ?_)
 refine fp HF 1 0 [(3, .slice none 0 0)] fun a HF => ?_
 refine s_d0 (s_fs1 ?_)
 refine fp HF 1 0 [(4, .slice none 0 0)] fun a HF => ?_
 refine s_d0 ?_
 replace HM := HM.nil 44 1
 replace HM := HM.newTail 43 3
 replace HM : Mem w _ (.row (.slice none 0 0) 0 [] 44 1 :: .blk g2 #[vI 0, vQ 0, .slice none 0 0, .slice none 0 0, .slice none 0 0, .slice none 0 0, .slice none 0 0] 30 :: .blk g1 x.cells 30 :: rwF 43 []) := HM
 refine wp_seq (s_fs1 ?_)
 refine fp HF 1 0 [(5, vI 0)] fun a HF => ?_
 refine s_d0 (wp_block ?_)
 refine qi (fun mS aS wS => ∃ (i : Nat) (z : List Rw) (As : Option Addr) (cs : Nat), (i ≤ x.rs.length) ∧ (z.length = i) ∧ (z.map Rw.l = (x.rs.take i).map Rw.l) ∧ (∀ q ∈ z, q.l.length ≤ q.c) ∧ (z.length ≤ cs) ∧ mS = x.rs.length - i ∧ Fr aS 44 [] [(5, vI i), (4, .slice As z.length cs), (3, .slice none 0 0), (2, vP g2 0), (1, vP g1 0)] ∧ Mem w wS (.row (.slice As z.length cs) z.length (z.map Rw.val) 44 1 :: .blk g2 #[vI 0, vQ 0, .slice none 0 0, .slice none 0 0, .slice none 0 0, .slice none 0 0, .slice none 0 0] 30 :: .blk g1 x.cells 30 :: rwF 43 z)) (m := x.rs.length - 0) ⟨0, [], none, 0, Nat.zero_le _, rfl, rfl, (fun q h => by cases h), Nat.le_refl _, rfl, HF.sub (by kernel_rfl), HM.pt 3 [0, 1, 2]⟩ ?_
 clear HF HM; rintro mS a w_ ⟨i, z, As, cs, hi, hzl, hz, hzc, hcs, rfl, HF, HM⟩
 refine wp_seq (s_fs1 ?_)
 refine fp HF 2 0 [(8, vP g1 6), (7, vI i)] fun a HF => ?_
 refine s_fz HF HM 2 rfl (v := .slice x.sA x.rs.length x.sc) (Yl.qd rfl rfl (by kernel_rfl) (fun _ h => h.cell (i := 2) rfl (rfl))) fun a HF => ?_
 refine s_fl HF 3 fun a HF => ?_
 refine fp HF 1 4 [(11, .bool (decide ((i : Int) < (x.rs.length : Int))))] fun a HF => ?_
 refine s_d0 ?_
 rcases HF.tf 11 rfl with ⟨hb11, HF⟩ | ⟨hb11, HF⟩
 ·
  have hd11 := of_decide_eq_true hb11
  have hi11 : i < x.rs.length := by omega
  obtain ⟨y, hy⟩ : ∃ q, x.rs.getD i Rw.zero = q := ⟨_, rfl⟩
  have hyr : Rd w w.heap.size 3 y.A y.l.length (y.l.flatMap spL) := by rw [← hy]; exact hx.row hi11
  have hyl : y.l.length ≤ 1000000 := by rw [← hy]; exact hf.r _ (qu Rw.zero hi11)
  refine s_ct HF (wp_skip (wp_seq (wp_block (s_fs1 ?_))))
  refine fp HF 1 0 [(6, .slice none 0 0)] fun a HF => ?_
  refine s_d0 (qa ?_)
  refine fp HF 3 0 [(16, vP g1 6), (15, .slice none 0 0), (14, .slice As z.length cs)] fun a HF => ?_
  refine s_fz HF HM 3 rfl (v := .slice x.sA x.rs.length x.sc) (Yl.qd rfl rfl (by kernel_rfl) (fun _ h => h.cell (i := 2) rfl (rfl))) fun a HF => ?_
  refine fp HF 1 4 [(18, vI i)] fun a HF => ?_
  obtain ⟨gq1, oq1, hq1, _⟩ := Rd.qj hx.s (Nat.lt_of_le_of_lt (Nat.zero_le _) (show i < x.rs.length from by omega)) (by decide)
  have hrq1 := hx.s; rw [hq1] at hrq1
  replace HF := HF.sp 17 (.slice (some ⟨gq1, oq1, none⟩) x.rs.length x.sc) rfl (by rw [hq1]; try rfl)
  refine s_fz HF HM 5 rfl (v := vP gq1 (oq1 + i * 1)) (Yl.ix gq1 oq1 i 1 rfl rfl rfl) fun a HF => ?_
  refine s_fz HF HM 6 rfl (v := .slice ((x.rs.getD i Rw.zero).A) ((x.rs.getD i Rw.zero).l.length) ((x.rs.getD i Rw.zero).c)) (Yl.o1 hrq1 i Rw.zero hi11 rfl rfl) fun a HF => ?_
  replace HF := HF.sp 20 (.slice y.A y.l.length y.c) rfl (by rw [hy])
  refine fo HF 7 rfl rfl ?_
  replace HM := HM.nil 43 3
  refine qo HF HM (i := 0) rfl ei_sp rfl rfl rfl (news := (y.l.flatMap spL)) (HM.old hyr) (qkg _) (by omega) (by omega) rfl (by decide) ?_
  clear HF HM; intro a w21 A21 c21 HF HM hc21
  have hnA21 : 0 + y.l.length = y.l.length := Nat.zero_add _
  replace HM := HM.reRow (i := 0) (ys := y.l.flatMap spL) rfl hnA21 (rfl)
  rw [hnA21] at hc21
  replace HF := HF.sp 21 (.slice A21 y.l.length c21) rfl (by rw [hnA21])
  refine fo HF 8 rfl rfl (s_el HF HM ei_rw [(0, .slice A21 y.l.length c21)] #[.slice A21 y.l.length c21] ?_)
  clear HF HM; intro a w22 g22 HF HM
  refine fo HF 9 rfl rfl (qo HF HM (i := 2) rfl ei_rw rfl rfl rfl (news := ([(⟨A21, c21, y.l⟩ : Rw)].map Rw.val)) (HM.rdBlk (i := 0) (n := 1) (size := 1) rfl rfl) (qrr _) (by omega) (by omega) rfl (by decide) ?_)
  clear HF HM; intro a w23 A23 c23 HF HM hc23
  have hnA23 : z.length + 1 = (z ++ [(⟨A21, c21, y.l⟩ : Rw)]).length := qs rfl
  replace HM := HM.reRow (i := 2) (ys := (z ++ [(⟨A21, c21, y.l⟩ : Rw)]).map Rw.val) rfl hnA23 (List.map_append.symm)
  rw [hnA23] at hc23
  replace HF := HF.sp 23 (.slice A23 ((z ++ [(⟨A21, c21, y.l⟩ : Rw)]).length) c23) rfl (by rw [hnA23])
  refine fp HF 1 10 [(4, .slice A23 ((z ++ [(⟨A21, c21, y.l⟩ : Rw)]).length) c23)] fun a HF => ?_
  refine s_d0 ?_
  replace HM := HM.pt (fs' := (.row (.slice A21 y.l.length c21) y.l.length (y.l.flatMap spL) 43 3 :: .row (.slice A23 ((z ++ [(⟨A21, c21, y.l⟩ : Rw)]).length) c23) ((z ++ [(⟨A21, c21, y.l⟩ : Rw)]).length) ((z ++ [(⟨A21, c21, y.l⟩ : Rw)]).map Rw.val) 44 1 :: .blk g2 #[vI 0, vQ 0, .slice none 0 0, .slice none 0 0, .slice none 0 0, .slice none 0 0, .slice none 0 0] 30 :: .blk g1 x.cells 30 :: rwF 43 z)) 5 [1, 2, 3, 4]
  replace HM := Mem.toRw (fs := [.row (.slice A23 ((z ++ [(⟨A21, c21, y.l⟩ : Rw)]).length) c23) ((z ++ [(⟨A21, c21, y.l⟩ : Rw)]).length) ((z ++ [(⟨A21, c21, y.l⟩ : Rw)]).map Rw.val) 44 1, .blk g2 #[vI 0, vQ 0, .slice none 0 0, .slice none 0 0, .slice none 0 0, .slice none 0 0, .slice none 0 0] 30, .blk g1 x.cells 30]) HM
  replace HM : Mem w _ (.row (.slice A23 ((z ++ [(⟨A21, c21, y.l⟩ : Rw)]).length) c23) ((z ++ [(⟨A21, c21, y.l⟩ : Rw)]).length) ((z ++ [(⟨A21, c21, y.l⟩ : Rw)]).map Rw.val) 44 1 :: .blk g2 #[vI 0, vQ 0, .slice none 0 0, .slice none 0 0, .slice none 0 0, .slice none 0 0, .slice none 0 0] 30 :: .blk g1 x.cells 30 :: rwF 43 (z ++ [(⟨A21, c21, y.l⟩ : Rw)])) := HM
  refine qa ?_
  refine fp HF 2 0 [(13, vI (IntKind.i64.wrap ((i : Int) + 1)))] fun a HF => ?_
  replace HF := HF.sp 13 (vI (i + 1 : Nat)) rfl (qc (by omega) (by omega))
  refine fp HF 1 2 [(5, vI (i + 1 : Nat))] fun a HF => ?_
  refine s_d0 ?_
  exact ⟨_, (by omega), i + 1, (z ++ [(⟨A21, c21, y.l⟩ : Rw)]), A23, c23, by omega, by rw [List.length_append, hzl]; rfl, by rw [List.map_append, hz, qvc hi11, hy]; rfl, fun q h => (List.mem_append.1 h).elim (hzc q) (fun h => by rw [List.mem_singleton] at h; subst h; exact hc21), hc23, rfl, HF.sub (by kernel_rfl), HM.pt 3 [0, 1, 2]⟩
 have hd11 := of_decide_eq_false hb11
 have hzt : x.rs.take i = x.rs := List.take_of_length_le (by omega)
 refine s_cf HF (wp_exit (wp_seq ?_))
 refine zf HM (.row (.slice As z.length cs) z.length (z.map Rw.val) 44 1 :: .blk g2 #[vI 0, vQ 0, .slice none 0 0, .slice none 0 0, .slice none 0 0, .slice none 0 0, .slice none 0 0] 30 :: rwF 43 z) 3 [0, 1] [15, 21, 23] fun HM HS => ?_
 refine qw (f := 9) (l := (bt 24 [15, 16, 17, 18, 19, 20, 21, 22, 23])) (fun aS wS => ∃ (A26 : Option Addr) (c26 : Nat) (A29 : Option Addr) (c29 : Nat) (A32 : Option Addr) (c32 : Nat) (A36 : Option Addr) (c36 : Nat), Fr aS 44 [] [(36, .slice A36 (0 + x.ts.length) c36), (38, vP g1 0), (32, .slice A32 x.cu.length c32), (29, .slice A29 x.cl.length c29), (26, .agg #[vI x.cpus, vQ x.credit, .slice A26 x.gs.length c26]), (37, .slice As z.length cs), (11, .bool false), (10, vI x.rs.length), (9, .slice x.sA x.rs.length x.sc), (8, vP g1 6), (7, vI i), (5, vI i), (4, .slice As z.length cs), (2, vP g2 0), (1, vP g1 0)] ∧ Mem w wS (.row (.slice A36 (0 + x.ts.length) c36) (0 + x.ts.length) ([] ++ (x.ts.flatMap tkL)) 46 8 :: .row (.slice A32 x.cu.length c32) x.cu.length (x.cu.map I64i) 3 1 :: .row (.slice A29 x.cl.length c29) x.cl.length (x.cl.map I64i) 3 1 :: .row (.slice A26 x.gs.length c26) x.gs.length (x.gs.flatMap grL) 40 2 :: .row (.slice As z.length cs) z.length (z.map Rw.val) 44 1 :: .blk g2 #[vI 0, vQ 0, .slice none 0 0, .slice none 0 0, .slice none 0 0, .slice none 0 0, .slice none 0 0] 30 :: .blk g1 x.cells 30 :: rwF 43 z) ∧ (x.gs.length ≤ c26) ∧ (x.cl.length ≤ c29) ∧ (x.cu.length ≤ c32) ∧ (0 + x.ts.length ≤ c36)) ?_ fun M8_0 => ?_
 ·
  clear HF HM HS; rintro a wM ⟨A26, c26, A29, c29, A32, c32, A36, c36, HF, HM, hc26, hc29, hc32, hc36⟩
  have HS := HM.pt (fs' := (.row (.slice As z.length cs) z.length (z.map Rw.val) 44 1 :: .blk g2 #[vI 0, vQ 0, .slice none 0 0, .slice none 0 0, .slice none 0 0, .slice none 0 0, .slice none 0 0] 30 :: rwF 43 z)) 7 [4, 5]
  refine qe [15] (by kernel_rfl) rfl ?_
  refine all_cons ?_ all_nil
  refine qf HF (i := 15) rfl rfl ?_
  refine e_sp HF HM 6 (es := #[vI x.cpus, vQ x.credit, .slice A26 x.gs.length c26, .slice x.lA x.cl.length x.lc, .slice x.uA x.cu.length x.uc, .slice x.tA x.ts.length x.tc, .slice x.sA x.rs.length x.sc]) rfl rfl rfl rfl rfl qa9 (Nat.le_of_ble_eq_true rfl) rfl (by simp [Value.oneCell']) rfl ?_
  clear HM; intro w8_15 HM
  refine noS (by kernel_rfl) ?_
  refine ap HF (pastS (by kernel_rfl)) [16] (bt 24 [17, 18, 19, 20, 21, 22, 23]) [(39, vP g1 3)] fun a HF => ?_
  refine qe [17] (by kernel_rfl) rfl ?_
  refine all_cons ?_ all_nil
  refine qf HF (i := 17) rfl rfl ?_
  refine s_es HF HM 6 ?_
  clear HM; intro w8_17 HM
  refine keepS (HM.pt 7 [4, 5]) (fun HS => ?_)
  refine ap HF (pastS (by kernel_rfl)) [18] (bt 24 [19, 20, 21, 22, 23]) [(40, vP g1 4)] fun a HF => ?_
  refine qe [19] (by kernel_rfl) rfl ?_
  refine all_cons ?_ all_nil
  refine qf HF (i := 19) rfl rfl ?_
  refine s_es HF HM 6 ?_
  clear HM; intro w8_19 HM
  refine keepS (HM.pt 7 [4, 5]) (fun HS => ?_)
  refine ap HF (pastS (by kernel_rfl)) [20] (bt 24 [21, 22, 23]) [(41, vP g1 5)] fun a HF => ?_
  refine qe [21] (by kernel_rfl) rfl ?_
  refine all_cons ?_ all_nil
  refine qf HF (i := 21) rfl rfl ?_
  refine s_es HF HM 6 ?_
  clear HM; intro w8_21 HM
  refine noS (by kernel_rfl) ?_
  refine ap HF (pastS (by kernel_rfl)) [22] (bt 24 [23]) [(42, vP g1 6)] fun a HF => ?_
  refine qe [23] (by kernel_rfl) rfl ?_
  refine all_cons ?_ all_nil
  refine qf HF (i := 23) rfl rfl ?_
  refine s_es HF HM 6 ?_
  clear HM; intro w8_23 HM
  refine noS (by kernel_rfl) ?_
  refine qk (by kernel_rfl) ?_
  rw [Nat.zero_add] at HM hc36
  refine s_fs1 ?_
  refine s_fz HF HM 0 rfl (v := .agg #[vI x.cpus, vQ x.credit, .slice A26 x.gs.length c26, .slice A29 x.cl.length c29, .slice A32 x.cu.length c32, .slice A36 x.ts.length c36, .slice As z.length cs]) (Yl.qt rfl rfl si_st rfl (fun _ h => qg (h.blk (i := 6) rfl))) fun a HF => ?_
  refine fo HF 1 rfl rfl (e_sa HF HM 5 rfl rfl rfl rfl rfl si_st rfl rfl (by simp [Value.oneCell']) ?_)
  clear HM; intro w9_1 HM
  refine s_d0 (wp_ret ?_)
  exact ret1 rfl HF (.cellS (i := 5) HF HM rfl rfl si_st rfl) (⟨⟨x.cpus, x.credit, A26, c26, x.gs, A29, c29, x.cl, A32, c32, x.cu, A36, c36, x.ts, As, cs, z⟩, rfl, ⟨⟨rfl, rfl, rfl⟩, rfl, rfl, rfl, (by rw [hzt] at hz; exact hz.symm)⟩, ⟨hc26, hc29, hc32, hc36, hcs, hzc⟩, HM.pt 7 [3, 2, 1, 0, 4]⟩)
 refine qw (f := 10) (l := (bt 24 [12, 15, 16, 17, 18, 19, 20, 21, 22, 23])) (fun aS wS => ∃ (A26 : Option Addr) (c26 : Nat) (A29 : Option Addr) (c29 : Nat) (A32 : Option Addr) (c32 : Nat), Fr aS 44 [] [(32, .slice A32 x.cu.length c32), (38, vP g1 0), (35, .slice x.tA x.ts.length x.tc), (29, .slice A29 x.cl.length c29), (26, .agg #[vI x.cpus, vQ x.credit, .slice A26 x.gs.length c26]), (37, .slice As z.length cs), (33, .slice none 0 0), (11, .bool false), (10, vI x.rs.length), (9, .slice x.sA x.rs.length x.sc), (8, vP g1 6), (7, vI i), (5, vI i), (4, .slice As z.length cs), (2, vP g2 0), (1, vP g1 0)] ∧ Mem w wS (.row (.slice A32 x.cu.length c32) x.cu.length (x.cu.map I64i) 3 1 :: .row (.slice A29 x.cl.length c29) x.cl.length (x.cl.map I64i) 3 1 :: .row (.slice A26 x.gs.length c26) x.gs.length (x.gs.flatMap grL) 40 2 :: .row (.slice As z.length cs) z.length (z.map Rw.val) 44 1 :: .blk g2 #[vI 0, vQ 0, .slice none 0 0, .slice none 0 0, .slice none 0 0, .slice none 0 0, .slice none 0 0] 30 :: .blk g1 x.cells 30 :: rwF 43 z) ∧ (x.gs.length ≤ c26) ∧ (x.cl.length ≤ c29) ∧ (x.cu.length ≤ c32)) ?_ fun M8_1 => ?_
 ·
  clear HF HM HS; rintro a wM ⟨A26, c26, A29, c29, A32, c32, HF, HM, hc26, hc29, hc32⟩
  have HS := HM.pt (fs' := (.row (.slice As z.length cs) z.length (z.map Rw.val) 44 1 :: .blk g2 #[vI 0, vQ 0, .slice none 0 0, .slice none 0 0, .slice none 0 0, .slice none 0 0, .slice none 0 0] 30 :: rwF 43 z)) 6 [3, 4]
  refine qe [12] (by kernel_rfl) rfl ?_
  refine all_cons ?_ all_nil
  refine qf HF (i := 12) rfl rfl ?_
  replace HM := HM.nil 46 8
  refine qo HF HM (i := 0) rfl ei_tk rfl rfl rfl (news := (x.ts.flatMap tkL)) (HM.old hx.t) (qnb _) (by omega) (by omega) rfl (by decide) ?_
  clear HF HM; intro a w36 A36 c36 HF HM hc36
  refine keepS (HM.pt 7 [4, 5]) (fun HS => ?_)
  exact M8_0 _ _ ⟨A26, c26, A29, c29, A32, c32, A36, c36, HF.sub (by kernel_rfl), HM.pt 7 [0, 1, 2, 3, 4, 5, 6], hc26, hc29, hc32, hc36⟩
 refine qw (f := 12) (l := (bf 24 [0, 1, 2, 3, 4, 5, 6, 7, 9, 10, 11, 13])) (fun aS wS => ∃ (A26 : Option Addr) (c26 : Nat) (A29 : Option Addr) (c29 : Nat), Fr aS 44 [] [(35, .slice x.tA x.ts.length x.tc), (31, .slice x.uA x.cu.length x.uc), (29, .slice A29 x.cl.length c29), (26, .agg #[vI x.cpus, vQ x.credit, .slice A26 x.gs.length c26]), (37, .slice As z.length cs), (33, .slice none 0 0), (11, .bool false), (10, vI x.rs.length), (9, .slice x.sA x.rs.length x.sc), (8, vP g1 6), (7, vI i), (5, vI i), (4, .slice As z.length cs), (2, vP g2 0), (1, vP g1 0)] ∧ Mem w wS (.row (.slice A29 x.cl.length c29) x.cl.length (x.cl.map I64i) 3 1 :: .row (.slice A26 x.gs.length c26) x.gs.length (x.gs.flatMap grL) 40 2 :: .row (.slice As z.length cs) z.length (z.map Rw.val) 44 1 :: .blk g2 #[vI 0, vQ 0, .slice none 0 0, .slice none 0 0, .slice none 0 0, .slice none 0 0, .slice none 0 0] 30 :: .blk g1 x.cells 30 :: rwF 43 z) ∧ (x.gs.length ≤ c26) ∧ (x.cl.length ≤ c29)) ?_ fun M8_2 => ?_
 ·
  clear HF HM HS; rintro a wM ⟨A26, c26, A29, c29, HF, HM, hc26, hc29⟩
  have HS := HM.pt (fs' := (.row (.slice As z.length cs) z.length (z.map Rw.val) 44 1 :: .blk g2 #[vI 0, vQ 0, .slice none 0 0, .slice none 0 0, .slice none 0 0, .slice none 0 0, .slice none 0 0] 30 :: rwF 43 z)) 5 [2, 3]
  refine ap HF (fun _ => HS) [14] (bt 24 [8, 12, 15, 16, 17, 18, 19, 20, 21, 22, 23]) [(38, vP g1 0)] fun a HF => ?_
  refine qe [8] (by kernel_rfl) rfl ?_
  refine all_cons ?_ all_nil
  refine qf HF (i := 8) rfl rfl ?_
  refine s_ek HF HM [.slice x.uA x.cu.length x.uc] (zx x.uA x.uc x.cu _ (HM.old hx.u) hf.u) fun A32 c32 w32 hc32 HM a HF => ?_
  refine keepS (HM.pt 6 [3, 4]) (fun HS => ?_)
  exact M8_1 _ _ ⟨A26, c26, A29, c29, A32, c32, HF.sub (by kernel_rfl), HM.pt 6 [0, 1, 2, 3, 4, 5], hc26, hc29, hc32⟩
 refine qw (f := 13) (l := (bf 24 [0, 1, 2, 3, 4, 5, 6, 7, 9, 10, 13])) (fun aS wS => ∃ (A26 : Option Addr) (c26 : Nat) (A29 : Option Addr) (c29 : Nat), Fr aS 44 [] [(31, .slice x.uA x.cu.length x.uc), (29, .slice A29 x.cl.length c29), (26, .agg #[vI x.cpus, vQ x.credit, .slice A26 x.gs.length c26]), (37, .slice As z.length cs), (34, vP g1 5), (33, .slice none 0 0), (11, .bool false), (10, vI x.rs.length), (9, .slice x.sA x.rs.length x.sc), (8, vP g1 6), (7, vI i), (5, vI i), (4, .slice As z.length cs), (2, vP g2 0), (1, vP g1 0)] ∧ Mem w wS (.row (.slice A29 x.cl.length c29) x.cl.length (x.cl.map I64i) 3 1 :: .row (.slice A26 x.gs.length c26) x.gs.length (x.gs.flatMap grL) 40 2 :: .row (.slice As z.length cs) z.length (z.map Rw.val) 44 1 :: .blk g2 #[vI 0, vQ 0, .slice none 0 0, .slice none 0 0, .slice none 0 0, .slice none 0 0, .slice none 0 0] 30 :: .blk g1 x.cells 30 :: rwF 43 z) ∧ (x.gs.length ≤ c26) ∧ (x.cl.length ≤ c29)) ?_ fun M8_3 => ?_
 ·
  clear HF HM HS; rintro a wM ⟨A26, c26, A29, c29, HF, HM, hc26, hc29⟩
  have HS := HM.pt (fs' := (.row (.slice As z.length cs) z.length (z.map Rw.val) 44 1 :: .blk g2 #[vI 0, vQ 0, .slice none 0 0, .slice none 0 0, .slice none 0 0, .slice none 0 0, .slice none 0 0] 30 :: rwF 43 z)) 5 [2, 3]
  refine qe [8, 11] (by kernel_rfl) rfl ?_
  refine all_cons ?_ ?_
  ·refine qf HF (i := 8) rfl rfl ?_
   refine s_ek HF HM [.slice x.uA x.cu.length x.uc] (zx x.uA x.uc x.cu _ (HM.old hx.u) hf.u) fun A32 c32 w32 hc32 HM a HF => ?_
   refine keepS (HM.pt 6 [3, 4]) (fun HS => ?_)
   refine qe [11] (by kernel_rfl) rfl ?_
   refine all_cons ?_ all_nil
   refine qf HF (i := 11) rfl rfl ?_
   refine Yl.wp (S := fun wS => Mem w wS _) (v := .slice x.tA x.ts.length x.tc) (Yl.qd rfl rfl (by kernel_rfl) (fun _ h => h.cell (i := 5) rfl (rfl))) HF HM rfl (by decide) fun a HF => ?_
   refine keepS HS (fun HS => ?_)
   refine ap HF (fun _ => HS) [14] (bt 24 [12, 15, 16, 17, 18, 19, 20, 21, 22, 23]) [(38, vP g1 0)] fun a HF => ?_
   refine qe [12] (by kernel_rfl) rfl ?_
   refine all_cons ?_ all_nil
   refine qf HF (i := 12) rfl rfl ?_
   replace HM := HM.nil 46 8
   refine qo HF HM (i := 0) rfl ei_tk rfl rfl rfl (news := (x.ts.flatMap tkL)) (HM.old hx.t) (qnb _) (by omega) (by omega) rfl (by decide) ?_
   clear HF HM; intro a w36 A36 c36 HF HM hc36
   refine keepS (HM.pt 7 [4, 5]) (fun HS => ?_)
   exact M8_0 _ _ ⟨A26, c26, A29, c29, A32, c32, A36, c36, HF.sub (by kernel_rfl), HM.pt 7 [0, 1, 2, 3, 4, 5, 6], hc26, hc29, hc32, hc36⟩
  refine all_cons ?_ all_nil
  refine qf HF (i := 11) rfl rfl ?_
  refine Yl.wp (S := fun wS => Mem w wS _) (v := .slice x.tA x.ts.length x.tc) (Yl.qd rfl rfl (by kernel_rfl) (fun _ h => h.cell (i := 4) rfl (rfl))) HF HM rfl (by decide) fun a HF => ?_
  refine keepS HS (fun HS => ?_)
  exact M8_2 _ _ ⟨A26, c26, A29, c29, HF.sub (by kernel_rfl), HM.pt 5 [0, 1, 2, 3, 4], hc26, hc29⟩
 refine qw (f := 13) (l := (bf 24 [0, 1, 2, 3, 4, 5, 6, 9, 10, 11, 13])) (fun aS wS => ∃ (A26 : Option Addr) (c26 : Nat) (A29 : Option Addr) (c29 : Nat), Fr aS 44 [] [(35, .slice x.tA x.ts.length x.tc), (29, .slice A29 x.cl.length c29), (26, .agg #[vI x.cpus, vQ x.credit, .slice A26 x.gs.length c26]), (37, .slice As z.length cs), (33, .slice none 0 0), (30, vP g1 4), (11, .bool false), (10, vI x.rs.length), (9, .slice x.sA x.rs.length x.sc), (8, vP g1 6), (7, vI i), (5, vI i), (4, .slice As z.length cs), (2, vP g2 0), (1, vP g1 0)] ∧ Mem w wS (.row (.slice A29 x.cl.length c29) x.cl.length (x.cl.map I64i) 3 1 :: .row (.slice A26 x.gs.length c26) x.gs.length (x.gs.flatMap grL) 40 2 :: .row (.slice As z.length cs) z.length (z.map Rw.val) 44 1 :: .blk g2 #[vI 0, vQ 0, .slice none 0 0, .slice none 0 0, .slice none 0 0, .slice none 0 0, .slice none 0 0] 30 :: .blk g1 x.cells 30 :: rwF 43 z) ∧ (x.gs.length ≤ c26) ∧ (x.cl.length ≤ c29)) ?_ fun M8_4 => ?_
 ·
  clear HF HM HS; rintro a wM ⟨A26, c26, A29, c29, HF, HM, hc26, hc29⟩
  have HS := HM.pt (fs' := (.row (.slice As z.length cs) z.length (z.map Rw.val) 44 1 :: .blk g2 #[vI 0, vQ 0, .slice none 0 0, .slice none 0 0, .slice none 0 0, .slice none 0 0, .slice none 0 0] 30 :: rwF 43 z)) 5 [2, 3]
  refine qe [7] (by kernel_rfl) rfl ?_
  refine all_cons ?_ all_nil
  refine qf HF (i := 7) rfl rfl ?_
  refine Yl.wp (S := fun wS => Mem w wS _) (v := .slice x.uA x.cu.length x.uc) (Yl.qd rfl rfl (by kernel_rfl) (fun _ h => h.cell (i := 4) rfl (rfl))) HF HM rfl (by decide) fun a HF => ?_
  refine keepS HS (fun HS => ?_)
  exact M8_2 _ _ ⟨A26, c26, A29, c29, HF.sub (by kernel_rfl), HM.pt 5 [0, 1, 2, 3, 4], hc26, hc29⟩
 refine qw (f := 13) (l := (bf 24 [0, 1, 2, 3, 4, 6, 7, 9, 10, 11, 13])) (fun aS wS => ∃ (A26 : Option Addr) (c26 : Nat), Fr aS 44 [] [(35, .slice x.tA x.ts.length x.tc), (31, .slice x.uA x.cu.length x.uc), (28, .slice x.lA x.cl.length x.lc), (26, .agg #[vI x.cpus, vQ x.credit, .slice A26 x.gs.length c26]), (37, .slice As z.length cs), (33, .slice none 0 0), (11, .bool false), (10, vI x.rs.length), (9, .slice x.sA x.rs.length x.sc), (8, vP g1 6), (7, vI i), (5, vI i), (4, .slice As z.length cs), (2, vP g2 0), (1, vP g1 0)] ∧ Mem w wS (.row (.slice A26 x.gs.length c26) x.gs.length (x.gs.flatMap grL) 40 2 :: .row (.slice As z.length cs) z.length (z.map Rw.val) 44 1 :: .blk g2 #[vI 0, vQ 0, .slice none 0 0, .slice none 0 0, .slice none 0 0, .slice none 0 0, .slice none 0 0] 30 :: .blk g1 x.cells 30 :: rwF 43 z) ∧ (x.gs.length ≤ c26)) ?_ fun M8_5 => ?_
 ·
  clear HF HM HS; rintro a wM ⟨A26, c26, HF, HM, hc26⟩
  have HS := HM.pt (fs' := (.row (.slice As z.length cs) z.length (z.map Rw.val) 44 1 :: .blk g2 #[vI 0, vQ 0, .slice none 0 0, .slice none 0 0, .slice none 0 0, .slice none 0 0, .slice none 0 0] 30 :: rwF 43 z)) 4 [1, 2]
  refine ap HF (fun _ => HS) [14] (bf 24 [0, 1, 2, 3, 4, 6, 7, 9, 10, 11, 13, 14]) [(38, vP g1 0)] fun a HF => ?_
  refine qe [5] (by kernel_rfl) rfl ?_
  refine all_cons ?_ all_nil
  refine qf HF (i := 5) rfl rfl ?_
  refine s_ek HF HM [.slice x.lA x.cl.length x.lc] (zx x.lA x.lc x.cl _ (HM.old hx.l) hf.l) fun A29 c29 w29 hc29 HM a HF => ?_
  refine keepS (HM.pt 5 [2, 3]) (fun HS => ?_)
  refine qe [8] (by kernel_rfl) rfl ?_
  refine all_cons ?_ all_nil
  refine qf HF (i := 8) rfl rfl ?_
  refine s_ek HF HM [.slice x.uA x.cu.length x.uc] (zx x.uA x.uc x.cu _ (HM.old hx.u) hf.u) fun A32 c32 w32 hc32 HM a HF => ?_
  refine keepS (HM.pt 6 [3, 4]) (fun HS => ?_)
  exact M8_1 _ _ ⟨A26, c26, A29, c29, A32, c32, HF.sub (by kernel_rfl), HM.pt 6 [0, 1, 2, 3, 4, 5], hc26, hc29, hc32⟩
 refine qw (f := 14) (l := (bf 24 [0, 1, 2, 3, 4, 6, 7, 9, 10, 13])) (fun aS wS => ∃ (A26 : Option Addr) (c26 : Nat), Fr aS 44 [] [(31, .slice x.uA x.cu.length x.uc), (28, .slice x.lA x.cl.length x.lc), (26, .agg #[vI x.cpus, vQ x.credit, .slice A26 x.gs.length c26]), (37, .slice As z.length cs), (34, vP g1 5), (33, .slice none 0 0), (11, .bool false), (10, vI x.rs.length), (9, .slice x.sA x.rs.length x.sc), (8, vP g1 6), (7, vI i), (5, vI i), (4, .slice As z.length cs), (2, vP g2 0), (1, vP g1 0)] ∧ Mem w wS (.row (.slice A26 x.gs.length c26) x.gs.length (x.gs.flatMap grL) 40 2 :: .row (.slice As z.length cs) z.length (z.map Rw.val) 44 1 :: .blk g2 #[vI 0, vQ 0, .slice none 0 0, .slice none 0 0, .slice none 0 0, .slice none 0 0, .slice none 0 0] 30 :: .blk g1 x.cells 30 :: rwF 43 z) ∧ (x.gs.length ≤ c26)) ?_ fun M8_6 => ?_
 ·
  clear HF HM HS; rintro a wM ⟨A26, c26, HF, HM, hc26⟩
  have HS := HM.pt (fs' := (.row (.slice As z.length cs) z.length (z.map Rw.val) 44 1 :: .blk g2 #[vI 0, vQ 0, .slice none 0 0, .slice none 0 0, .slice none 0 0, .slice none 0 0, .slice none 0 0] 30 :: rwF 43 z)) 4 [1, 2]
  refine qe [5, 11] (by kernel_rfl) rfl ?_
  refine all_cons ?_ ?_
  ·refine qf HF (i := 5) rfl rfl ?_
   refine s_ek HF HM [.slice x.lA x.cl.length x.lc] (zx x.lA x.lc x.cl _ (HM.old hx.l) hf.l) fun A29 c29 w29 hc29 HM a HF => ?_
   refine keepS (HM.pt 5 [2, 3]) (fun HS => ?_)
   exact M8_3 _ _ ⟨A26, c26, A29, c29, HF.sub (by kernel_rfl), HM.pt 5 [0, 1, 2, 3, 4], hc26, hc29⟩
  refine all_cons ?_ all_nil
  refine qf HF (i := 11) rfl rfl ?_
  refine Yl.wp (S := fun wS => Mem w wS _) (v := .slice x.tA x.ts.length x.tc) (Yl.qd rfl rfl (by kernel_rfl) (fun _ h => h.cell (i := 3) rfl (rfl))) HF HM rfl (by decide) fun a HF => ?_
  refine keepS HS (fun HS => ?_)
  exact M8_5 _ _ ⟨A26, c26, HF.sub (by kernel_rfl), HM.pt 4 [0, 1, 2, 3], hc26⟩
 refine qw (f := 14) (l := (bf 24 [0, 1, 2, 3, 4, 6, 9, 10, 11, 13])) (fun aS wS => ∃ (A26 : Option Addr) (c26 : Nat), Fr aS 44 [] [(35, .slice x.tA x.ts.length x.tc), (28, .slice x.lA x.cl.length x.lc), (26, .agg #[vI x.cpus, vQ x.credit, .slice A26 x.gs.length c26]), (37, .slice As z.length cs), (33, .slice none 0 0), (30, vP g1 4), (11, .bool false), (10, vI x.rs.length), (9, .slice x.sA x.rs.length x.sc), (8, vP g1 6), (7, vI i), (5, vI i), (4, .slice As z.length cs), (2, vP g2 0), (1, vP g1 0)] ∧ Mem w wS (.row (.slice A26 x.gs.length c26) x.gs.length (x.gs.flatMap grL) 40 2 :: .row (.slice As z.length cs) z.length (z.map Rw.val) 44 1 :: .blk g2 #[vI 0, vQ 0, .slice none 0 0, .slice none 0 0, .slice none 0 0, .slice none 0 0, .slice none 0 0] 30 :: .blk g1 x.cells 30 :: rwF 43 z) ∧ (x.gs.length ≤ c26)) ?_ fun M8_7 => ?_
 ·
  clear HF HM HS; rintro a wM ⟨A26, c26, HF, HM, hc26⟩
  have HS := HM.pt (fs' := (.row (.slice As z.length cs) z.length (z.map Rw.val) 44 1 :: .blk g2 #[vI 0, vQ 0, .slice none 0 0, .slice none 0 0, .slice none 0 0, .slice none 0 0, .slice none 0 0] 30 :: rwF 43 z)) 4 [1, 2]
  refine qe [5, 7] (by kernel_rfl) rfl ?_
  refine all_cons ?_ ?_
  ·refine qf HF (i := 5) rfl rfl ?_
   refine s_ek HF HM [.slice x.lA x.cl.length x.lc] (zx x.lA x.lc x.cl _ (HM.old hx.l) hf.l) fun A29 c29 w29 hc29 HM a HF => ?_
   refine keepS (HM.pt 5 [2, 3]) (fun HS => ?_)
   exact M8_4 _ _ ⟨A26, c26, A29, c29, HF.sub (by kernel_rfl), HM.pt 5 [0, 1, 2, 3, 4], hc26, hc29⟩
  refine all_cons ?_ all_nil
  refine qf HF (i := 7) rfl rfl ?_
  refine Yl.wp (S := fun wS => Mem w wS _) (v := .slice x.uA x.cu.length x.uc) (Yl.qd rfl rfl (by kernel_rfl) (fun _ h => h.cell (i := 3) rfl (rfl))) HF HM rfl (by decide) fun a HF => ?_
  refine keepS HS (fun HS => ?_)
  exact M8_5 _ _ ⟨A26, c26, HF.sub (by kernel_rfl), HM.pt 4 [0, 1, 2, 3], hc26⟩
 refine qw (f := 14) (l := (bf 24 [0, 1, 2, 3, 6, 7, 9, 10, 11, 13])) (fun aS wS => ∃ (A26 : Option Addr) (c26 : Nat), Fr aS 44 [] [(35, .slice x.tA x.ts.length x.tc), (31, .slice x.uA x.cu.length x.uc), (26, .agg #[vI x.cpus, vQ x.credit, .slice A26 x.gs.length c26]), (37, .slice As z.length cs), (33, .slice none 0 0), (27, vP g1 3), (11, .bool false), (10, vI x.rs.length), (9, .slice x.sA x.rs.length x.sc), (8, vP g1 6), (7, vI i), (5, vI i), (4, .slice As z.length cs), (2, vP g2 0), (1, vP g1 0)] ∧ Mem w wS (.row (.slice A26 x.gs.length c26) x.gs.length (x.gs.flatMap grL) 40 2 :: .row (.slice As z.length cs) z.length (z.map Rw.val) 44 1 :: .blk g2 #[vI 0, vQ 0, .slice none 0 0, .slice none 0 0, .slice none 0 0, .slice none 0 0, .slice none 0 0] 30 :: .blk g1 x.cells 30 :: rwF 43 z) ∧ (x.gs.length ≤ c26)) ?_ fun M8_8 => ?_
 ·
  clear HF HM HS; rintro a wM ⟨A26, c26, HF, HM, hc26⟩
  have HS := HM.pt (fs' := (.row (.slice As z.length cs) z.length (z.map Rw.val) 44 1 :: .blk g2 #[vI 0, vQ 0, .slice none 0 0, .slice none 0 0, .slice none 0 0, .slice none 0 0, .slice none 0 0] 30 :: rwF 43 z)) 4 [1, 2]
  refine qe [4] (by kernel_rfl) rfl ?_
  refine all_cons ?_ all_nil
  refine qf HF (i := 4) rfl rfl ?_
  refine Yl.wp (S := fun wS => Mem w wS _) (v := .slice x.lA x.cl.length x.lc) (Yl.qd rfl rfl (by kernel_rfl) (fun _ h => h.cell (i := 3) rfl (rfl))) HF HM rfl (by decide) fun a HF => ?_
  refine keepS HS (fun HS => ?_)
  exact M8_5 _ _ ⟨A26, c26, HF.sub (by kernel_rfl), HM.pt 4 [0, 1, 2, 3], hc26⟩
 refine qw (f := 14) (l := (bf 24 [0, 1, 3, 4, 6, 7, 9, 10, 11, 13])) (fun aS wS => Fr aS 44 [] [(35, .slice x.tA x.ts.length x.tc), (31, .slice x.uA x.cu.length x.uc), (28, .slice x.lA x.cl.length x.lc), (25, .agg #[vI x.cpus, vQ x.credit, .slice x.gA x.gs.length x.gc]), (37, .slice As z.length cs), (33, .slice none 0 0), (11, .bool false), (10, vI x.rs.length), (9, .slice x.sA x.rs.length x.sc), (8, vP g1 6), (7, vI i), (5, vI i), (4, .slice As z.length cs), (2, vP g2 0), (1, vP g1 0)] ∧ Mem w wS (.row (.slice As z.length cs) z.length (z.map Rw.val) 44 1 :: .blk g2 #[vI 0, vQ 0, .slice none 0 0, .slice none 0 0, .slice none 0 0, .slice none 0 0, .slice none 0 0] 30 :: .blk g1 x.cells 30 :: rwF 43 z)) ?_ fun M8_9 => ?_
 ·
  clear HF HM HS; rintro a wM ⟨HF, HM⟩
  have HS := HM.pt (fs' := (.row (.slice As z.length cs) z.length (z.map Rw.val) 44 1 :: .blk g2 #[vI 0, vQ 0, .slice none 0 0, .slice none 0 0, .slice none 0 0, .slice none 0 0, .slice none 0 0] 30 :: rwF 43 z)) 3 [0, 1]
  refine qe [2] (by kernel_rfl) rfl ?_
  refine all_cons ?_ all_nil
  refine qf HF (i := 2) rfl rfl ?_
  refine s_ek HF HM [.agg #[vI x.cpus, vQ x.credit, .slice x.gA x.gs.length x.gc]] (zd x _ (hx.old HM) hf.g) fun A26 c26 w26 hc26 HM a HF => ?_
  refine keepS (HM.pt 4 [1, 2]) (fun HS => ?_)
  exact M8_5 _ _ ⟨A26, c26, HF.sub (by kernel_rfl), HM.pt 4 [0, 1, 2, 3], hc26⟩
 refine qw (f := 15) (l := (bf 24 [0, 1, 2, 3, 4, 6, 9, 10, 13])) (fun aS wS => ∃ (A26 : Option Addr) (c26 : Nat), Fr aS 44 [] [(28, .slice x.lA x.cl.length x.lc), (26, .agg #[vI x.cpus, vQ x.credit, .slice A26 x.gs.length c26]), (37, .slice As z.length cs), (34, vP g1 5), (33, .slice none 0 0), (30, vP g1 4), (11, .bool false), (10, vI x.rs.length), (9, .slice x.sA x.rs.length x.sc), (8, vP g1 6), (7, vI i), (5, vI i), (4, .slice As z.length cs), (2, vP g2 0), (1, vP g1 0)] ∧ Mem w wS (.row (.slice A26 x.gs.length c26) x.gs.length (x.gs.flatMap grL) 40 2 :: .row (.slice As z.length cs) z.length (z.map Rw.val) 44 1 :: .blk g2 #[vI 0, vQ 0, .slice none 0 0, .slice none 0 0, .slice none 0 0, .slice none 0 0, .slice none 0 0] 30 :: .blk g1 x.cells 30 :: rwF 43 z) ∧ (x.gs.length ≤ c26)) ?_ fun M8_10 => ?_
 ·
  clear HF HM HS; rintro a wM ⟨A26, c26, HF, HM, hc26⟩
  have HS := HM.pt (fs' := (.row (.slice As z.length cs) z.length (z.map Rw.val) 44 1 :: .blk g2 #[vI 0, vQ 0, .slice none 0 0, .slice none 0 0, .slice none 0 0, .slice none 0 0, .slice none 0 0] 30 :: rwF 43 z)) 4 [1, 2]
  refine qe [5, 7, 11] (by kernel_rfl) rfl ?_
  refine all_cons ?_ ?_
  ·refine qf HF (i := 5) rfl rfl ?_
   refine s_ek HF HM [.slice x.lA x.cl.length x.lc] (zx x.lA x.lc x.cl _ (HM.old hx.l) hf.l) fun A29 c29 w29 hc29 HM a HF => ?_
   refine keepS (HM.pt 5 [2, 3]) (fun HS => ?_)
   refine qe [7, 11] (by kernel_rfl) rfl ?_
   refine all_cons ?_ ?_
   ·refine qf HF (i := 7) rfl rfl ?_
    refine Yl.wp (S := fun wS => Mem w wS _) (v := .slice x.uA x.cu.length x.uc) (Yl.qd rfl rfl (by kernel_rfl) (fun _ h => h.cell (i := 4) rfl (rfl))) HF HM rfl (by decide) fun a HF => ?_
    refine keepS HS (fun HS => ?_)
    exact M8_3 _ _ ⟨A26, c26, A29, c29, HF.sub (by kernel_rfl), HM.pt 5 [0, 1, 2, 3, 4], hc26, hc29⟩
   refine all_cons ?_ all_nil
   refine qf HF (i := 11) rfl rfl ?_
   refine Yl.wp (S := fun wS => Mem w wS _) (v := .slice x.tA x.ts.length x.tc) (Yl.qd rfl rfl (by kernel_rfl) (fun _ h => h.cell (i := 4) rfl (rfl))) HF HM rfl (by decide) fun a HF => ?_
   refine keepS HS (fun HS => ?_)
   exact M8_4 _ _ ⟨A26, c26, A29, c29, HF.sub (by kernel_rfl), HM.pt 5 [0, 1, 2, 3, 4], hc26, hc29⟩
  refine all_cons ?_ ?_
  ·refine qf HF (i := 7) rfl rfl ?_
   refine Yl.wp (S := fun wS => Mem w wS _) (v := .slice x.uA x.cu.length x.uc) (Yl.qd rfl rfl (by kernel_rfl) (fun _ h => h.cell (i := 3) rfl (rfl))) HF HM rfl (by decide) fun a HF => ?_
   refine keepS HS (fun HS => ?_)
   exact M8_6 _ _ ⟨A26, c26, HF.sub (by kernel_rfl), HM.pt 4 [0, 1, 2, 3], hc26⟩
  refine all_cons ?_ all_nil
  refine qf HF (i := 11) rfl rfl ?_
  refine Yl.wp (S := fun wS => Mem w wS _) (v := .slice x.tA x.ts.length x.tc) (Yl.qd rfl rfl (by kernel_rfl) (fun _ h => h.cell (i := 3) rfl (rfl))) HF HM rfl (by decide) fun a HF => ?_
  refine keepS HS (fun HS => ?_)
  exact M8_7 _ _ ⟨A26, c26, HF.sub (by kernel_rfl), HM.pt 4 [0, 1, 2, 3], hc26⟩
 refine qw (f := 15) (l := (bf 24 [0, 1, 2, 3, 6, 7, 9, 10, 13])) (fun aS wS => ∃ (A26 : Option Addr) (c26 : Nat), Fr aS 44 [] [(31, .slice x.uA x.cu.length x.uc), (26, .agg #[vI x.cpus, vQ x.credit, .slice A26 x.gs.length c26]), (37, .slice As z.length cs), (34, vP g1 5), (33, .slice none 0 0), (27, vP g1 3), (11, .bool false), (10, vI x.rs.length), (9, .slice x.sA x.rs.length x.sc), (8, vP g1 6), (7, vI i), (5, vI i), (4, .slice As z.length cs), (2, vP g2 0), (1, vP g1 0)] ∧ Mem w wS (.row (.slice A26 x.gs.length c26) x.gs.length (x.gs.flatMap grL) 40 2 :: .row (.slice As z.length cs) z.length (z.map Rw.val) 44 1 :: .blk g2 #[vI 0, vQ 0, .slice none 0 0, .slice none 0 0, .slice none 0 0, .slice none 0 0, .slice none 0 0] 30 :: .blk g1 x.cells 30 :: rwF 43 z) ∧ (x.gs.length ≤ c26)) ?_ fun M8_11 => ?_
 ·
  clear HF HM HS; rintro a wM ⟨A26, c26, HF, HM, hc26⟩
  have HS := HM.pt (fs' := (.row (.slice As z.length cs) z.length (z.map Rw.val) 44 1 :: .blk g2 #[vI 0, vQ 0, .slice none 0 0, .slice none 0 0, .slice none 0 0, .slice none 0 0, .slice none 0 0] 30 :: rwF 43 z)) 4 [1, 2]
  refine qe [4, 11] (by kernel_rfl) rfl ?_
  refine all_cons ?_ ?_
  ·refine qf HF (i := 4) rfl rfl ?_
   refine Yl.wp (S := fun wS => Mem w wS _) (v := .slice x.lA x.cl.length x.lc) (Yl.qd rfl rfl (by kernel_rfl) (fun _ h => h.cell (i := 3) rfl (rfl))) HF HM rfl (by decide) fun a HF => ?_
   refine keepS HS (fun HS => ?_)
   exact M8_6 _ _ ⟨A26, c26, HF.sub (by kernel_rfl), HM.pt 4 [0, 1, 2, 3], hc26⟩
  refine all_cons ?_ all_nil
  refine qf HF (i := 11) rfl rfl ?_
  refine Yl.wp (S := fun wS => Mem w wS _) (v := .slice x.tA x.ts.length x.tc) (Yl.qd rfl rfl (by kernel_rfl) (fun _ h => h.cell (i := 3) rfl (rfl))) HF HM rfl (by decide) fun a HF => ?_
  refine keepS HS (fun HS => ?_)
  exact M8_8 _ _ ⟨A26, c26, HF.sub (by kernel_rfl), HM.pt 4 [0, 1, 2, 3], hc26⟩
 refine qw (f := 15) (l := (bf 24 [0, 1, 2, 3, 6, 9, 10, 11, 13])) (fun aS wS => ∃ (A26 : Option Addr) (c26 : Nat), Fr aS 44 [] [(35, .slice x.tA x.ts.length x.tc), (26, .agg #[vI x.cpus, vQ x.credit, .slice A26 x.gs.length c26]), (37, .slice As z.length cs), (33, .slice none 0 0), (30, vP g1 4), (27, vP g1 3), (11, .bool false), (10, vI x.rs.length), (9, .slice x.sA x.rs.length x.sc), (8, vP g1 6), (7, vI i), (5, vI i), (4, .slice As z.length cs), (2, vP g2 0), (1, vP g1 0)] ∧ Mem w wS (.row (.slice A26 x.gs.length c26) x.gs.length (x.gs.flatMap grL) 40 2 :: .row (.slice As z.length cs) z.length (z.map Rw.val) 44 1 :: .blk g2 #[vI 0, vQ 0, .slice none 0 0, .slice none 0 0, .slice none 0 0, .slice none 0 0, .slice none 0 0] 30 :: .blk g1 x.cells 30 :: rwF 43 z) ∧ (x.gs.length ≤ c26)) ?_ fun M8_12 => ?_
 ·
  clear HF HM HS; rintro a wM ⟨A26, c26, HF, HM, hc26⟩
  have HS := HM.pt (fs' := (.row (.slice As z.length cs) z.length (z.map Rw.val) 44 1 :: .blk g2 #[vI 0, vQ 0, .slice none 0 0, .slice none 0 0, .slice none 0 0, .slice none 0 0, .slice none 0 0] 30 :: rwF 43 z)) 4 [1, 2]
  refine qe [4, 7] (by kernel_rfl) rfl ?_
  refine all_cons ?_ ?_
  ·refine qf HF (i := 4) rfl rfl ?_
   refine Yl.wp (S := fun wS => Mem w wS _) (v := .slice x.lA x.cl.length x.lc) (Yl.qd rfl rfl (by kernel_rfl) (fun _ h => h.cell (i := 3) rfl (rfl))) HF HM rfl (by decide) fun a HF => ?_
   refine keepS HS (fun HS => ?_)
   exact M8_7 _ _ ⟨A26, c26, HF.sub (by kernel_rfl), HM.pt 4 [0, 1, 2, 3], hc26⟩
  refine all_cons ?_ all_nil
  refine qf HF (i := 7) rfl rfl ?_
  refine Yl.wp (S := fun wS => Mem w wS _) (v := .slice x.uA x.cu.length x.uc) (Yl.qd rfl rfl (by kernel_rfl) (fun _ h => h.cell (i := 3) rfl (rfl))) HF HM rfl (by decide) fun a HF => ?_
  refine keepS HS (fun HS => ?_)
  exact M8_8 _ _ ⟨A26, c26, HF.sub (by kernel_rfl), HM.pt 4 [0, 1, 2, 3], hc26⟩
 refine qw (f := 15) (l := (bf 24 [0, 1, 3, 4, 6, 7, 9, 10, 13])) (fun aS wS => Fr aS 44 [] [(31, .slice x.uA x.cu.length x.uc), (28, .slice x.lA x.cl.length x.lc), (25, .agg #[vI x.cpus, vQ x.credit, .slice x.gA x.gs.length x.gc]), (37, .slice As z.length cs), (34, vP g1 5), (33, .slice none 0 0), (11, .bool false), (10, vI x.rs.length), (9, .slice x.sA x.rs.length x.sc), (8, vP g1 6), (7, vI i), (5, vI i), (4, .slice As z.length cs), (2, vP g2 0), (1, vP g1 0)] ∧ Mem w wS (.row (.slice As z.length cs) z.length (z.map Rw.val) 44 1 :: .blk g2 #[vI 0, vQ 0, .slice none 0 0, .slice none 0 0, .slice none 0 0, .slice none 0 0, .slice none 0 0] 30 :: .blk g1 x.cells 30 :: rwF 43 z)) ?_ fun M8_13 => ?_
 ·
  clear HF HM HS; rintro a wM ⟨HF, HM⟩
  have HS := HM.pt (fs' := (.row (.slice As z.length cs) z.length (z.map Rw.val) 44 1 :: .blk g2 #[vI 0, vQ 0, .slice none 0 0, .slice none 0 0, .slice none 0 0, .slice none 0 0, .slice none 0 0] 30 :: rwF 43 z)) 3 [0, 1]
  refine qe [2, 11] (by kernel_rfl) rfl ?_
  refine all_cons ?_ ?_
  ·refine qf HF (i := 2) rfl rfl ?_
   refine s_ek HF HM [.agg #[vI x.cpus, vQ x.credit, .slice x.gA x.gs.length x.gc]] (zd x _ (hx.old HM) hf.g) fun A26 c26 w26 hc26 HM a HF => ?_
   refine keepS (HM.pt 4 [1, 2]) (fun HS => ?_)
   exact M8_6 _ _ ⟨A26, c26, HF.sub (by kernel_rfl), HM.pt 4 [0, 1, 2, 3], hc26⟩
  refine all_cons ?_ all_nil
  refine qf HF (i := 11) rfl rfl ?_
  refine Yl.wp (S := fun wS => Mem w wS _) (v := .slice x.tA x.ts.length x.tc) (Yl.qd rfl rfl (by kernel_rfl) (fun _ h => h.cell (i := 2) rfl (rfl))) HF HM rfl (by decide) fun a HF => ?_
  refine keepS HS (fun HS => ?_)
  exact M8_9 _ _ ⟨HF.sub (by kernel_rfl), HM.pt 3 [0, 1, 2]⟩
 refine qw (f := 15) (l := (bf 24 [0, 1, 3, 4, 6, 9, 10, 11, 13])) (fun aS wS => Fr aS 44 [] [(35, .slice x.tA x.ts.length x.tc), (28, .slice x.lA x.cl.length x.lc), (25, .agg #[vI x.cpus, vQ x.credit, .slice x.gA x.gs.length x.gc]), (37, .slice As z.length cs), (33, .slice none 0 0), (30, vP g1 4), (11, .bool false), (10, vI x.rs.length), (9, .slice x.sA x.rs.length x.sc), (8, vP g1 6), (7, vI i), (5, vI i), (4, .slice As z.length cs), (2, vP g2 0), (1, vP g1 0)] ∧ Mem w wS (.row (.slice As z.length cs) z.length (z.map Rw.val) 44 1 :: .blk g2 #[vI 0, vQ 0, .slice none 0 0, .slice none 0 0, .slice none 0 0, .slice none 0 0, .slice none 0 0] 30 :: .blk g1 x.cells 30 :: rwF 43 z)) ?_ fun M8_14 => ?_
 ·
  clear HF HM HS; rintro a wM ⟨HF, HM⟩
  have HS := HM.pt (fs' := (.row (.slice As z.length cs) z.length (z.map Rw.val) 44 1 :: .blk g2 #[vI 0, vQ 0, .slice none 0 0, .slice none 0 0, .slice none 0 0, .slice none 0 0, .slice none 0 0] 30 :: rwF 43 z)) 3 [0, 1]
  refine qe [2, 7] (by kernel_rfl) rfl ?_
  refine all_cons ?_ ?_
  ·refine qf HF (i := 2) rfl rfl ?_
   refine s_ek HF HM [.agg #[vI x.cpus, vQ x.credit, .slice x.gA x.gs.length x.gc]] (zd x _ (hx.old HM) hf.g) fun A26 c26 w26 hc26 HM a HF => ?_
   refine keepS (HM.pt 4 [1, 2]) (fun HS => ?_)
   exact M8_7 _ _ ⟨A26, c26, HF.sub (by kernel_rfl), HM.pt 4 [0, 1, 2, 3], hc26⟩
  refine all_cons ?_ all_nil
  refine qf HF (i := 7) rfl rfl ?_
  refine Yl.wp (S := fun wS => Mem w wS _) (v := .slice x.uA x.cu.length x.uc) (Yl.qd rfl rfl (by kernel_rfl) (fun _ h => h.cell (i := 2) rfl (rfl))) HF HM rfl (by decide) fun a HF => ?_
  refine keepS HS (fun HS => ?_)
  exact M8_9 _ _ ⟨HF.sub (by kernel_rfl), HM.pt 3 [0, 1, 2]⟩
 refine qw (f := 15) (l := (bf 24 [0, 1, 3, 6, 7, 9, 10, 11, 13])) (fun aS wS => Fr aS 44 [] [(35, .slice x.tA x.ts.length x.tc), (31, .slice x.uA x.cu.length x.uc), (25, .agg #[vI x.cpus, vQ x.credit, .slice x.gA x.gs.length x.gc]), (37, .slice As z.length cs), (33, .slice none 0 0), (27, vP g1 3), (11, .bool false), (10, vI x.rs.length), (9, .slice x.sA x.rs.length x.sc), (8, vP g1 6), (7, vI i), (5, vI i), (4, .slice As z.length cs), (2, vP g2 0), (1, vP g1 0)] ∧ Mem w wS (.row (.slice As z.length cs) z.length (z.map Rw.val) 44 1 :: .blk g2 #[vI 0, vQ 0, .slice none 0 0, .slice none 0 0, .slice none 0 0, .slice none 0 0, .slice none 0 0] 30 :: .blk g1 x.cells 30 :: rwF 43 z)) ?_ fun M8_15 => ?_
 ·
  clear HF HM HS; rintro a wM ⟨HF, HM⟩
  have HS := HM.pt (fs' := (.row (.slice As z.length cs) z.length (z.map Rw.val) 44 1 :: .blk g2 #[vI 0, vQ 0, .slice none 0 0, .slice none 0 0, .slice none 0 0, .slice none 0 0, .slice none 0 0] 30 :: rwF 43 z)) 3 [0, 1]
  refine qe [2, 4] (by kernel_rfl) rfl ?_
  refine all_cons ?_ ?_
  ·refine qf HF (i := 2) rfl rfl ?_
   refine s_ek HF HM [.agg #[vI x.cpus, vQ x.credit, .slice x.gA x.gs.length x.gc]] (zd x _ (hx.old HM) hf.g) fun A26 c26 w26 hc26 HM a HF => ?_
   refine keepS (HM.pt 4 [1, 2]) (fun HS => ?_)
   exact M8_8 _ _ ⟨A26, c26, HF.sub (by kernel_rfl), HM.pt 4 [0, 1, 2, 3], hc26⟩
  refine all_cons ?_ all_nil
  refine qf HF (i := 4) rfl rfl ?_
  refine Yl.wp (S := fun wS => Mem w wS _) (v := .slice x.lA x.cl.length x.lc) (Yl.qd rfl rfl (by kernel_rfl) (fun _ h => h.cell (i := 2) rfl (rfl))) HF HM rfl (by decide) fun a HF => ?_
  refine keepS HS (fun HS => ?_)
  exact M8_9 _ _ ⟨HF.sub (by kernel_rfl), HM.pt 3 [0, 1, 2]⟩
 refine qw (f := 15) (l := (bf 24 [0, 3, 4, 6, 7, 9, 10, 11, 13])) (fun aS wS => Fr aS 44 [] [(35, .slice x.tA x.ts.length x.tc), (31, .slice x.uA x.cu.length x.uc), (28, .slice x.lA x.cl.length x.lc), (37, .slice As z.length cs), (33, .slice none 0 0), (24, vP g1 0), (11, .bool false), (10, vI x.rs.length), (9, .slice x.sA x.rs.length x.sc), (8, vP g1 6), (7, vI i), (5, vI i), (4, .slice As z.length cs), (2, vP g2 0), (1, vP g1 0)] ∧ Mem w wS (.row (.slice As z.length cs) z.length (z.map Rw.val) 44 1 :: .blk g2 #[vI 0, vQ 0, .slice none 0 0, .slice none 0 0, .slice none 0 0, .slice none 0 0, .slice none 0 0] 30 :: .blk g1 x.cells 30 :: rwF 43 z)) ?_ fun M8_16 => ?_
 ·
  clear HF HM HS; rintro a wM ⟨HF, HM⟩
  have HS := HM.pt (fs' := (.row (.slice As z.length cs) z.length (z.map Rw.val) 44 1 :: .blk g2 #[vI 0, vQ 0, .slice none 0 0, .slice none 0 0, .slice none 0 0, .slice none 0 0, .slice none 0 0] 30 :: rwF 43 z)) 3 [0, 1]
  refine qe [1] (by kernel_rfl) rfl ?_
  refine all_cons ?_ all_nil
  refine qf HF (i := 1) rfl rfl ?_
  refine Yl.wp (S := fun wS => Mem w wS _) (v := .agg #[vI x.cpus, vQ x.credit, .slice x.gA x.gs.length x.gc]) (Yl.qt rfl rfl qa9 rfl (fun _ h => h.sub (i := 2) rfl 0 rfl)) HF HM rfl (by decide) fun a HF => ?_
  refine keepS HS (fun HS => ?_)
  exact M8_9 _ _ ⟨HF.sub (by kernel_rfl), HM.pt 3 [0, 1, 2]⟩
 refine qw (f := 16) (l := (bf 24 [0, 1, 3, 4, 6, 9, 10, 13])) (fun aS wS => Fr aS 44 [] [(28, .slice x.lA x.cl.length x.lc), (25, .agg #[vI x.cpus, vQ x.credit, .slice x.gA x.gs.length x.gc]), (37, .slice As z.length cs), (34, vP g1 5), (33, .slice none 0 0), (30, vP g1 4), (11, .bool false), (10, vI x.rs.length), (9, .slice x.sA x.rs.length x.sc), (8, vP g1 6), (7, vI i), (5, vI i), (4, .slice As z.length cs), (2, vP g2 0), (1, vP g1 0)] ∧ Mem w wS (.row (.slice As z.length cs) z.length (z.map Rw.val) 44 1 :: .blk g2 #[vI 0, vQ 0, .slice none 0 0, .slice none 0 0, .slice none 0 0, .slice none 0 0, .slice none 0 0] 30 :: .blk g1 x.cells 30 :: rwF 43 z)) ?_ fun M8_17 => ?_
 ·
  clear HF HM HS; rintro a wM ⟨HF, HM⟩
  have HS := HM.pt (fs' := (.row (.slice As z.length cs) z.length (z.map Rw.val) 44 1 :: .blk g2 #[vI 0, vQ 0, .slice none 0 0, .slice none 0 0, .slice none 0 0, .slice none 0 0, .slice none 0 0] 30 :: rwF 43 z)) 3 [0, 1]
  refine qe [2, 7, 11] (by kernel_rfl) rfl ?_
  refine all_cons ?_ ?_
  ·refine qf HF (i := 2) rfl rfl ?_
   refine s_ek HF HM [.agg #[vI x.cpus, vQ x.credit, .slice x.gA x.gs.length x.gc]] (zd x _ (hx.old HM) hf.g) fun A26 c26 w26 hc26 HM a HF => ?_
   refine keepS (HM.pt 4 [1, 2]) (fun HS => ?_)
   exact M8_10 _ _ ⟨A26, c26, HF.sub (by kernel_rfl), HM.pt 4 [0, 1, 2, 3], hc26⟩
  refine all_cons ?_ ?_
  ·refine qf HF (i := 7) rfl rfl ?_
   refine Yl.wp (S := fun wS => Mem w wS _) (v := .slice x.uA x.cu.length x.uc) (Yl.qd rfl rfl (by kernel_rfl) (fun _ h => h.cell (i := 2) rfl (rfl))) HF HM rfl (by decide) fun a HF => ?_
   refine keepS HS (fun HS => ?_)
   exact M8_13 _ _ ⟨HF.sub (by kernel_rfl), HM.pt 3 [0, 1, 2]⟩
  refine all_cons ?_ all_nil
  refine qf HF (i := 11) rfl rfl ?_
  refine Yl.wp (S := fun wS => Mem w wS _) (v := .slice x.tA x.ts.length x.tc) (Yl.qd rfl rfl (by kernel_rfl) (fun _ h => h.cell (i := 2) rfl (rfl))) HF HM rfl (by decide) fun a HF => ?_
  refine keepS HS (fun HS => ?_)
  exact M8_14 _ _ ⟨HF.sub (by kernel_rfl), HM.pt 3 [0, 1, 2]⟩
 refine qw (f := 16) (l := (bf 24 [0, 1, 3, 6, 7, 9, 10, 13])) (fun aS wS => Fr aS 44 [] [(31, .slice x.uA x.cu.length x.uc), (25, .agg #[vI x.cpus, vQ x.credit, .slice x.gA x.gs.length x.gc]), (37, .slice As z.length cs), (34, vP g1 5), (33, .slice none 0 0), (27, vP g1 3), (11, .bool false), (10, vI x.rs.length), (9, .slice x.sA x.rs.length x.sc), (8, vP g1 6), (7, vI i), (5, vI i), (4, .slice As z.length cs), (2, vP g2 0), (1, vP g1 0)] ∧ Mem w wS (.row (.slice As z.length cs) z.length (z.map Rw.val) 44 1 :: .blk g2 #[vI 0, vQ 0, .slice none 0 0, .slice none 0 0, .slice none 0 0, .slice none 0 0, .slice none 0 0] 30 :: .blk g1 x.cells 30 :: rwF 43 z)) ?_ fun M8_18 => ?_
 ·
  clear HF HM HS; rintro a wM ⟨HF, HM⟩
  have HS := HM.pt (fs' := (.row (.slice As z.length cs) z.length (z.map Rw.val) 44 1 :: .blk g2 #[vI 0, vQ 0, .slice none 0 0, .slice none 0 0, .slice none 0 0, .slice none 0 0, .slice none 0 0] 30 :: rwF 43 z)) 3 [0, 1]
  refine qe [2, 4, 11] (by kernel_rfl) rfl ?_
  refine all_cons ?_ ?_
  ·refine qf HF (i := 2) rfl rfl ?_
   refine s_ek HF HM [.agg #[vI x.cpus, vQ x.credit, .slice x.gA x.gs.length x.gc]] (zd x _ (hx.old HM) hf.g) fun A26 c26 w26 hc26 HM a HF => ?_
   refine keepS (HM.pt 4 [1, 2]) (fun HS => ?_)
   exact M8_11 _ _ ⟨A26, c26, HF.sub (by kernel_rfl), HM.pt 4 [0, 1, 2, 3], hc26⟩
  refine all_cons ?_ ?_
  ·refine qf HF (i := 4) rfl rfl ?_
   refine Yl.wp (S := fun wS => Mem w wS _) (v := .slice x.lA x.cl.length x.lc) (Yl.qd rfl rfl (by kernel_rfl) (fun _ h => h.cell (i := 2) rfl (rfl))) HF HM rfl (by decide) fun a HF => ?_
   refine keepS HS (fun HS => ?_)
   exact M8_13 _ _ ⟨HF.sub (by kernel_rfl), HM.pt 3 [0, 1, 2]⟩
  refine all_cons ?_ all_nil
  refine qf HF (i := 11) rfl rfl ?_
  refine Yl.wp (S := fun wS => Mem w wS _) (v := .slice x.tA x.ts.length x.tc) (Yl.qd rfl rfl (by kernel_rfl) (fun _ h => h.cell (i := 2) rfl (rfl))) HF HM rfl (by decide) fun a HF => ?_
  refine keepS HS (fun HS => ?_)
  exact M8_15 _ _ ⟨HF.sub (by kernel_rfl), HM.pt 3 [0, 1, 2]⟩
 refine qw (f := 16) (l := (bf 24 [0, 1, 3, 6, 9, 10, 11, 13])) (fun aS wS => Fr aS 44 [] [(35, .slice x.tA x.ts.length x.tc), (25, .agg #[vI x.cpus, vQ x.credit, .slice x.gA x.gs.length x.gc]), (37, .slice As z.length cs), (33, .slice none 0 0), (30, vP g1 4), (27, vP g1 3), (11, .bool false), (10, vI x.rs.length), (9, .slice x.sA x.rs.length x.sc), (8, vP g1 6), (7, vI i), (5, vI i), (4, .slice As z.length cs), (2, vP g2 0), (1, vP g1 0)] ∧ Mem w wS (.row (.slice As z.length cs) z.length (z.map Rw.val) 44 1 :: .blk g2 #[vI 0, vQ 0, .slice none 0 0, .slice none 0 0, .slice none 0 0, .slice none 0 0, .slice none 0 0] 30 :: .blk g1 x.cells 30 :: rwF 43 z)) ?_ fun M8_19 => ?_
 ·
  clear HF HM HS; rintro a wM ⟨HF, HM⟩
  have HS := HM.pt (fs' := (.row (.slice As z.length cs) z.length (z.map Rw.val) 44 1 :: .blk g2 #[vI 0, vQ 0, .slice none 0 0, .slice none 0 0, .slice none 0 0, .slice none 0 0, .slice none 0 0] 30 :: rwF 43 z)) 3 [0, 1]
  refine qe [2, 4, 7] (by kernel_rfl) rfl ?_
  refine all_cons ?_ ?_
  ·refine qf HF (i := 2) rfl rfl ?_
   refine s_ek HF HM [.agg #[vI x.cpus, vQ x.credit, .slice x.gA x.gs.length x.gc]] (zd x _ (hx.old HM) hf.g) fun A26 c26 w26 hc26 HM a HF => ?_
   refine keepS (HM.pt 4 [1, 2]) (fun HS => ?_)
   exact M8_12 _ _ ⟨A26, c26, HF.sub (by kernel_rfl), HM.pt 4 [0, 1, 2, 3], hc26⟩
  refine all_cons ?_ ?_
  ·refine qf HF (i := 4) rfl rfl ?_
   refine Yl.wp (S := fun wS => Mem w wS _) (v := .slice x.lA x.cl.length x.lc) (Yl.qd rfl rfl (by kernel_rfl) (fun _ h => h.cell (i := 2) rfl (rfl))) HF HM rfl (by decide) fun a HF => ?_
   refine keepS HS (fun HS => ?_)
   exact M8_14 _ _ ⟨HF.sub (by kernel_rfl), HM.pt 3 [0, 1, 2]⟩
  refine all_cons ?_ all_nil
  refine qf HF (i := 7) rfl rfl ?_
  refine Yl.wp (S := fun wS => Mem w wS _) (v := .slice x.uA x.cu.length x.uc) (Yl.qd rfl rfl (by kernel_rfl) (fun _ h => h.cell (i := 2) rfl (rfl))) HF HM rfl (by decide) fun a HF => ?_
  refine keepS HS (fun HS => ?_)
  exact M8_15 _ _ ⟨HF.sub (by kernel_rfl), HM.pt 3 [0, 1, 2]⟩
 refine qw (f := 16) (l := (bf 24 [0, 3, 4, 6, 7, 9, 10, 13])) (fun aS wS => Fr aS 44 [] [(31, .slice x.uA x.cu.length x.uc), (28, .slice x.lA x.cl.length x.lc), (37, .slice As z.length cs), (34, vP g1 5), (33, .slice none 0 0), (24, vP g1 0), (11, .bool false), (10, vI x.rs.length), (9, .slice x.sA x.rs.length x.sc), (8, vP g1 6), (7, vI i), (5, vI i), (4, .slice As z.length cs), (2, vP g2 0), (1, vP g1 0)] ∧ Mem w wS (.row (.slice As z.length cs) z.length (z.map Rw.val) 44 1 :: .blk g2 #[vI 0, vQ 0, .slice none 0 0, .slice none 0 0, .slice none 0 0, .slice none 0 0, .slice none 0 0] 30 :: .blk g1 x.cells 30 :: rwF 43 z)) ?_ fun M8_20 => ?_
 ·
  clear HF HM HS; rintro a wM ⟨HF, HM⟩
  have HS := HM.pt (fs' := (.row (.slice As z.length cs) z.length (z.map Rw.val) 44 1 :: .blk g2 #[vI 0, vQ 0, .slice none 0 0, .slice none 0 0, .slice none 0 0, .slice none 0 0, .slice none 0 0] 30 :: rwF 43 z)) 3 [0, 1]
  refine qe [1, 11] (by kernel_rfl) rfl ?_
  refine all_cons ?_ ?_
  ·refine qf HF (i := 1) rfl rfl ?_
   refine Yl.wp (S := fun wS => Mem w wS _) (v := .agg #[vI x.cpus, vQ x.credit, .slice x.gA x.gs.length x.gc]) (Yl.qt rfl rfl qa9 rfl (fun _ h => h.sub (i := 2) rfl 0 rfl)) HF HM rfl (by decide) fun a HF => ?_
   refine keepS HS (fun HS => ?_)
   exact M8_13 _ _ ⟨HF.sub (by kernel_rfl), HM.pt 3 [0, 1, 2]⟩
  refine all_cons ?_ all_nil
  refine qf HF (i := 11) rfl rfl ?_
  refine Yl.wp (S := fun wS => Mem w wS _) (v := .slice x.tA x.ts.length x.tc) (Yl.qd rfl rfl (by kernel_rfl) (fun _ h => h.cell (i := 2) rfl (rfl))) HF HM rfl (by decide) fun a HF => ?_
  refine keepS HS (fun HS => ?_)
  exact M8_16 _ _ ⟨HF.sub (by kernel_rfl), HM.pt 3 [0, 1, 2]⟩
 refine qw (f := 16) (l := (bf 24 [0, 3, 4, 6, 9, 10, 11, 13])) (fun aS wS => Fr aS 44 [] [(35, .slice x.tA x.ts.length x.tc), (28, .slice x.lA x.cl.length x.lc), (37, .slice As z.length cs), (33, .slice none 0 0), (30, vP g1 4), (24, vP g1 0), (11, .bool false), (10, vI x.rs.length), (9, .slice x.sA x.rs.length x.sc), (8, vP g1 6), (7, vI i), (5, vI i), (4, .slice As z.length cs), (2, vP g2 0), (1, vP g1 0)] ∧ Mem w wS (.row (.slice As z.length cs) z.length (z.map Rw.val) 44 1 :: .blk g2 #[vI 0, vQ 0, .slice none 0 0, .slice none 0 0, .slice none 0 0, .slice none 0 0, .slice none 0 0] 30 :: .blk g1 x.cells 30 :: rwF 43 z)) ?_ fun M8_21 => ?_
 ·
  clear HF HM HS; rintro a wM ⟨HF, HM⟩
  have HS := HM.pt (fs' := (.row (.slice As z.length cs) z.length (z.map Rw.val) 44 1 :: .blk g2 #[vI 0, vQ 0, .slice none 0 0, .slice none 0 0, .slice none 0 0, .slice none 0 0, .slice none 0 0] 30 :: rwF 43 z)) 3 [0, 1]
  refine qe [1, 7] (by kernel_rfl) rfl ?_
  refine all_cons ?_ ?_
  ·refine qf HF (i := 1) rfl rfl ?_
   refine Yl.wp (S := fun wS => Mem w wS _) (v := .agg #[vI x.cpus, vQ x.credit, .slice x.gA x.gs.length x.gc]) (Yl.qt rfl rfl qa9 rfl (fun _ h => h.sub (i := 2) rfl 0 rfl)) HF HM rfl (by decide) fun a HF => ?_
   refine keepS HS (fun HS => ?_)
   exact M8_14 _ _ ⟨HF.sub (by kernel_rfl), HM.pt 3 [0, 1, 2]⟩
  refine all_cons ?_ all_nil
  refine qf HF (i := 7) rfl rfl ?_
  refine Yl.wp (S := fun wS => Mem w wS _) (v := .slice x.uA x.cu.length x.uc) (Yl.qd rfl rfl (by kernel_rfl) (fun _ h => h.cell (i := 2) rfl (rfl))) HF HM rfl (by decide) fun a HF => ?_
  refine keepS HS (fun HS => ?_)
  exact M8_16 _ _ ⟨HF.sub (by kernel_rfl), HM.pt 3 [0, 1, 2]⟩
 refine qw (f := 16) (l := (bf 24 [0, 3, 6, 7, 9, 10, 11, 13])) (fun aS wS => Fr aS 44 [] [(35, .slice x.tA x.ts.length x.tc), (31, .slice x.uA x.cu.length x.uc), (37, .slice As z.length cs), (33, .slice none 0 0), (27, vP g1 3), (24, vP g1 0), (11, .bool false), (10, vI x.rs.length), (9, .slice x.sA x.rs.length x.sc), (8, vP g1 6), (7, vI i), (5, vI i), (4, .slice As z.length cs), (2, vP g2 0), (1, vP g1 0)] ∧ Mem w wS (.row (.slice As z.length cs) z.length (z.map Rw.val) 44 1 :: .blk g2 #[vI 0, vQ 0, .slice none 0 0, .slice none 0 0, .slice none 0 0, .slice none 0 0, .slice none 0 0] 30 :: .blk g1 x.cells 30 :: rwF 43 z)) ?_ fun M8_22 => ?_
 ·
  clear HF HM HS; rintro a wM ⟨HF, HM⟩
  have HS := HM.pt (fs' := (.row (.slice As z.length cs) z.length (z.map Rw.val) 44 1 :: .blk g2 #[vI 0, vQ 0, .slice none 0 0, .slice none 0 0, .slice none 0 0, .slice none 0 0, .slice none 0 0] 30 :: rwF 43 z)) 3 [0, 1]
  refine qe [1, 4] (by kernel_rfl) rfl ?_
  refine all_cons ?_ ?_
  ·refine qf HF (i := 1) rfl rfl ?_
   refine Yl.wp (S := fun wS => Mem w wS _) (v := .agg #[vI x.cpus, vQ x.credit, .slice x.gA x.gs.length x.gc]) (Yl.qt rfl rfl qa9 rfl (fun _ h => h.sub (i := 2) rfl 0 rfl)) HF HM rfl (by decide) fun a HF => ?_
   refine keepS HS (fun HS => ?_)
   exact M8_15 _ _ ⟨HF.sub (by kernel_rfl), HM.pt 3 [0, 1, 2]⟩
  refine all_cons ?_ all_nil
  refine qf HF (i := 4) rfl rfl ?_
  refine Yl.wp (S := fun wS => Mem w wS _) (v := .slice x.lA x.cl.length x.lc) (Yl.qd rfl rfl (by kernel_rfl) (fun _ h => h.cell (i := 2) rfl (rfl))) HF HM rfl (by decide) fun a HF => ?_
  refine keepS HS (fun HS => ?_)
  exact M8_16 _ _ ⟨HF.sub (by kernel_rfl), HM.pt 3 [0, 1, 2]⟩
 refine ap HF (fun _ => HS) [0, 3, 6, 9, 10, 13] (bf 24 [0, 3, 6, 9, 10, 13]) [(37, .slice As z.length cs), (34, vP g1 5), (33, .slice none 0 0), (30, vP g1 4), (27, vP g1 3), (24, vP g1 0)] fun a HF => ?_
 refine qe [1, 4, 7, 11] (by kernel_rfl) rfl ?_
 refine all_cons ?_ ?_
 ·refine qf HF (i := 1) rfl rfl ?_
  refine Yl.wp (S := fun wS => Mem w wS _) (v := .agg #[vI x.cpus, vQ x.credit, .slice x.gA x.gs.length x.gc]) (Yl.qt rfl rfl qa9 rfl (fun _ h => h.sub (i := 2) rfl 0 rfl)) HF HM rfl (by decide) fun a HF => ?_
  refine keepS HS (fun HS => ?_)
  refine qe [2, 4, 7, 11] (by kernel_rfl) rfl ?_
  refine all_cons ?_ ?_
  ·refine qf HF (i := 2) rfl rfl ?_
   refine s_ek HF HM [.agg #[vI x.cpus, vQ x.credit, .slice x.gA x.gs.length x.gc]] (zd x _ (hx.old HM) hf.g) fun A26 c26 w26 hc26 HM a HF => ?_
   refine keepS (HM.pt 4 [1, 2]) (fun HS => ?_)
   refine qe [4, 7, 11] (by kernel_rfl) rfl ?_
   refine all_cons ?_ ?_
   ·refine qf HF (i := 4) rfl rfl ?_
    refine Yl.wp (S := fun wS => Mem w wS _) (v := .slice x.lA x.cl.length x.lc) (Yl.qd rfl rfl (by kernel_rfl) (fun _ h => h.cell (i := 3) rfl (rfl))) HF HM rfl (by decide) fun a HF => ?_
    refine keepS HS (fun HS => ?_)
    exact M8_10 _ _ ⟨A26, c26, HF.sub (by kernel_rfl), HM.pt 4 [0, 1, 2, 3], hc26⟩
   refine all_cons ?_ ?_
   ·refine qf HF (i := 7) rfl rfl ?_
    refine Yl.wp (S := fun wS => Mem w wS _) (v := .slice x.uA x.cu.length x.uc) (Yl.qd rfl rfl (by kernel_rfl) (fun _ h => h.cell (i := 3) rfl (rfl))) HF HM rfl (by decide) fun a HF => ?_
    refine keepS HS (fun HS => ?_)
    exact M8_11 _ _ ⟨A26, c26, HF.sub (by kernel_rfl), HM.pt 4 [0, 1, 2, 3], hc26⟩
   refine all_cons ?_ all_nil
   refine qf HF (i := 11) rfl rfl ?_
   refine Yl.wp (S := fun wS => Mem w wS _) (v := .slice x.tA x.ts.length x.tc) (Yl.qd rfl rfl (by kernel_rfl) (fun _ h => h.cell (i := 3) rfl (rfl))) HF HM rfl (by decide) fun a HF => ?_
   refine keepS HS (fun HS => ?_)
   exact M8_12 _ _ ⟨A26, c26, HF.sub (by kernel_rfl), HM.pt 4 [0, 1, 2, 3], hc26⟩
  refine all_cons ?_ ?_
  ·refine qf HF (i := 4) rfl rfl ?_
   refine Yl.wp (S := fun wS => Mem w wS _) (v := .slice x.lA x.cl.length x.lc) (Yl.qd rfl rfl (by kernel_rfl) (fun _ h => h.cell (i := 2) rfl (rfl))) HF HM rfl (by decide) fun a HF => ?_
   refine keepS HS (fun HS => ?_)
   exact M8_17 _ _ ⟨HF.sub (by kernel_rfl), HM.pt 3 [0, 1, 2]⟩
  refine all_cons ?_ ?_
  ·refine qf HF (i := 7) rfl rfl ?_
   refine Yl.wp (S := fun wS => Mem w wS _) (v := .slice x.uA x.cu.length x.uc) (Yl.qd rfl rfl (by kernel_rfl) (fun _ h => h.cell (i := 2) rfl (rfl))) HF HM rfl (by decide) fun a HF => ?_
   refine keepS HS (fun HS => ?_)
   exact M8_18 _ _ ⟨HF.sub (by kernel_rfl), HM.pt 3 [0, 1, 2]⟩
  refine all_cons ?_ all_nil
  refine qf HF (i := 11) rfl rfl ?_
  refine Yl.wp (S := fun wS => Mem w wS _) (v := .slice x.tA x.ts.length x.tc) (Yl.qd rfl rfl (by kernel_rfl) (fun _ h => h.cell (i := 2) rfl (rfl))) HF HM rfl (by decide) fun a HF => ?_
  refine keepS HS (fun HS => ?_)
  exact M8_19 _ _ ⟨HF.sub (by kernel_rfl), HM.pt 3 [0, 1, 2]⟩
 refine all_cons ?_ ?_
 ·refine qf HF (i := 4) rfl rfl ?_
  refine Yl.wp (S := fun wS => Mem w wS _) (v := .slice x.lA x.cl.length x.lc) (Yl.qd rfl rfl (by kernel_rfl) (fun _ h => h.cell (i := 2) rfl (rfl))) HF HM rfl (by decide) fun a HF => ?_
  refine keepS HS (fun HS => ?_)
  refine qe [1, 7, 11] (by kernel_rfl) rfl ?_
  refine all_cons ?_ ?_
  ·refine qf HF (i := 1) rfl rfl ?_
   refine Yl.wp (S := fun wS => Mem w wS _) (v := .agg #[vI x.cpus, vQ x.credit, .slice x.gA x.gs.length x.gc]) (Yl.qt rfl rfl qa9 rfl (fun _ h => h.sub (i := 2) rfl 0 rfl)) HF HM rfl (by decide) fun a HF => ?_
   refine keepS HS (fun HS => ?_)
   exact M8_17 _ _ ⟨HF.sub (by kernel_rfl), HM.pt 3 [0, 1, 2]⟩
  refine all_cons ?_ ?_
  ·refine qf HF (i := 7) rfl rfl ?_
   refine Yl.wp (S := fun wS => Mem w wS _) (v := .slice x.uA x.cu.length x.uc) (Yl.qd rfl rfl (by kernel_rfl) (fun _ h => h.cell (i := 2) rfl (rfl))) HF HM rfl (by decide) fun a HF => ?_
   refine keepS HS (fun HS => ?_)
   exact M8_20 _ _ ⟨HF.sub (by kernel_rfl), HM.pt 3 [0, 1, 2]⟩
  refine all_cons ?_ all_nil
  refine qf HF (i := 11) rfl rfl ?_
  refine Yl.wp (S := fun wS => Mem w wS _) (v := .slice x.tA x.ts.length x.tc) (Yl.qd rfl rfl (by kernel_rfl) (fun _ h => h.cell (i := 2) rfl (rfl))) HF HM rfl (by decide) fun a HF => ?_
  refine keepS HS (fun HS => ?_)
  exact M8_21 _ _ ⟨HF.sub (by kernel_rfl), HM.pt 3 [0, 1, 2]⟩
 refine all_cons ?_ ?_
 ·refine qf HF (i := 7) rfl rfl ?_
  refine Yl.wp (S := fun wS => Mem w wS _) (v := .slice x.uA x.cu.length x.uc) (Yl.qd rfl rfl (by kernel_rfl) (fun _ h => h.cell (i := 2) rfl (rfl))) HF HM rfl (by decide) fun a HF => ?_
  refine keepS HS (fun HS => ?_)
  refine qe [1, 4, 11] (by kernel_rfl) rfl ?_
  refine all_cons ?_ ?_
  ·refine qf HF (i := 1) rfl rfl ?_
   refine Yl.wp (S := fun wS => Mem w wS _) (v := .agg #[vI x.cpus, vQ x.credit, .slice x.gA x.gs.length x.gc]) (Yl.qt rfl rfl qa9 rfl (fun _ h => h.sub (i := 2) rfl 0 rfl)) HF HM rfl (by decide) fun a HF => ?_
   refine keepS HS (fun HS => ?_)
   exact M8_18 _ _ ⟨HF.sub (by kernel_rfl), HM.pt 3 [0, 1, 2]⟩
  refine all_cons ?_ ?_
  ·refine qf HF (i := 4) rfl rfl ?_
   refine Yl.wp (S := fun wS => Mem w wS _) (v := .slice x.lA x.cl.length x.lc) (Yl.qd rfl rfl (by kernel_rfl) (fun _ h => h.cell (i := 2) rfl (rfl))) HF HM rfl (by decide) fun a HF => ?_
   refine keepS HS (fun HS => ?_)
   exact M8_20 _ _ ⟨HF.sub (by kernel_rfl), HM.pt 3 [0, 1, 2]⟩
  refine all_cons ?_ all_nil
  refine qf HF (i := 11) rfl rfl ?_
  refine Yl.wp (S := fun wS => Mem w wS _) (v := .slice x.tA x.ts.length x.tc) (Yl.qd rfl rfl (by kernel_rfl) (fun _ h => h.cell (i := 2) rfl (rfl))) HF HM rfl (by decide) fun a HF => ?_
  refine keepS HS (fun HS => ?_)
  exact M8_22 _ _ ⟨HF.sub (by kernel_rfl), HM.pt 3 [0, 1, 2]⟩
 refine all_cons ?_ all_nil
 refine qf HF (i := 11) rfl rfl ?_
 refine Yl.wp (S := fun wS => Mem w wS _) (v := .slice x.tA x.ts.length x.tc) (Yl.qd rfl rfl (by kernel_rfl) (fun _ h => h.cell (i := 2) rfl (rfl))) HF HM rfl (by decide) fun a HF => ?_
 refine keepS HS (fun HS => ?_)
 refine qe [1, 4, 7] (by kernel_rfl) rfl ?_
 refine all_cons ?_ ?_
 ·refine qf HF (i := 1) rfl rfl ?_
  refine Yl.wp (S := fun wS => Mem w wS _) (v := .agg #[vI x.cpus, vQ x.credit, .slice x.gA x.gs.length x.gc]) (Yl.qt rfl rfl qa9 rfl (fun _ h => h.sub (i := 2) rfl 0 rfl)) HF HM rfl (by decide) fun a HF => ?_
  refine keepS HS (fun HS => ?_)
  exact M8_19 _ _ ⟨HF.sub (by kernel_rfl), HM.pt 3 [0, 1, 2]⟩
 refine all_cons ?_ ?_
 ·refine qf HF (i := 4) rfl rfl ?_
  refine Yl.wp (S := fun wS => Mem w wS _) (v := .slice x.lA x.cl.length x.lc) (Yl.qd rfl rfl (by kernel_rfl) (fun _ h => h.cell (i := 2) rfl (rfl))) HF HM rfl (by decide) fun a HF => ?_
  refine keepS HS (fun HS => ?_)
  exact M8_21 _ _ ⟨HF.sub (by kernel_rfl), HM.pt 3 [0, 1, 2]⟩
 refine all_cons ?_ all_nil
 refine qf HF (i := 7) rfl rfl ?_
 refine Yl.wp (S := fun wS => Mem w wS _) (v := .slice x.uA x.cu.length x.uc) (Yl.qd rfl rfl (by kernel_rfl) (fun _ h => h.cell (i := 2) rfl (rfl))) HF HM rfl (by decide) fun a HF => ?_
 refine keepS HS (fun HS => ?_)
 exact M8_22 _ _ ⟨HF.sub (by kernel_rfl), HM.pt 3 [0, 1, 2]⟩
theorem qpk (c : Nat) (hc : c < 4294967296) (A : Option Addr) (n cp : Nat) (l : List Nat) (B : Nat) (w : World) (hL : LaidX B w) (hB : B ≤ w.heap.size) (hr : Rd w w.heap.size 1 A n (l.map B8)) (hln : l.length = n) (hn : n ≤ 140737488355328) (hl : ∀ b ∈ l, b < 256) :
    Calls Tryz.prog 99 #[.int .u32 (c : Int), .slice A n cp] w (Is w (.int .u32 (qp c l : Int))) := by
 refine s_ce Tryz.func99 [vW c, .slice A n cp] [(0, vW c), (1, .slice A n cp)] fun a HF => ?_
 have HM := Mem.start w
 refine s_fs1 ?_
 refine fp HF 1 0 [(4, vW 0)] fun a HF => ?_
 refine s_d0 (wp_seq (s_fs1 ?_))
 refine fp HF 1 0 [(7, .slice A n cp)] fun a HF => ?_
 refine s_fl HF 1 fun a HF => ?_
 refine fp HF 1 2 [(9, vI 0)] fun a HF => ?_
 refine s_d0 (wp_block ?_)
 refine qi (fun mS aS wS => ∃ (k : Nat), (k ≤ n) ∧ mS = n - k ∧ Fr aS 33 [] [(9, vI k), (8, vI n), (7, .slice A n cp), (4, vW 0), (0, vW (qp c (l.take k)))] ∧ Mem w wS []) (m := n - 0) ⟨0, Nat.zero_le _, rfl, HF.sub (by kernel_rfl), HM.pk []⟩ ?_
 clear HF HM; rintro mS a w_ ⟨k, hk, rfl, HF, HM⟩
 have hcr := qci (l.take k) hc (qep hl k)
 refine s_fs1 ?_
 refine fp HF 1 0 [(10, .bool (decide ((k : Int) < (n : Int))))] fun a HF => ?_
 refine s_d0 (wp_seq ?_)
 rcases HF.tf 10 rfl with ⟨hb10, HF⟩ | ⟨hb10, HF⟩
 ·
  have hd10 := of_decide_eq_true hb10
  refine s_ct HF (wp_skip (wp_seq (wp_block (s_fs1 ?_))))
  obtain ⟨gA, oA, rfl, _⟩ := hr.qj (Nat.lt_of_le_of_lt (Nat.zero_le _) (show k < n from by omega)) (by decide)
  refine s_fz HF HM 0 rfl (v := vP gA (oA + k * 1)) (Yl.ix gA oA k 1 rfl rfl rfl) fun a HF => ?_
  have hx34 := getD_lt hl (k := k) (by first | omega | (simp; omega))
  refine s_fz HF HM 1 rfl (v := vB (l.getD k 0)) (Yl.o1 hr k 0 (by first | omega | (simp; omega)) rfl rfl) fun a HF => ?_
  refine fp HF 1 2 [(6, vB (l.getD k 0))] fun a HF => ?_
  refine s_d0 (s_fs1 ?_)
  refine fp HF 3 0 [(15, vW (IntKind.u32.wrap ((l.getD k 0) : Int))), (13, vW (qp c (l.take k)))] fun a HF => ?_
  replace HF := HF.sp 15 (vW (l.getD k 0)) rfl (qas rfl (by omega))
  refine fp HF 1 3 [(16, vW (IntKind.u32.wrap (BitVec.ofInt (IntKind.u32).bits (qp c (l.take k) : Int) ^^^ BitVec.ofInt (IntKind.u32).bits ((l.getD k 0) : Int)).toNat))] fun a HF => ?_
  replace HF := HF.sp 16 (vW ((qp c (l.take k)) ^^^ (l.getD k 0) : Nat)) rfl (qf4 (m := qp c (l.take k)) (n := (l.getD k 0)) (by omega) (by omega))
  refine fp HF 1 4 [(0, vW ((qp c (l.take k)) ^^^ (l.getD k 0) : Nat))] fun a HF => ?_
  refine s_d0 ?_
  have hy := qdr hcr (show l.getD k 0 < 4294967296 by omega)
  refine s_fs1 ?_
  refine fp HF 2 0 [(18, vW (Int.fdiv (((qp c (l.take k)) ^^^ (l.getD k 0) : Nat) : Int) (2 ^ (min (4 : Int).toNat (IntKind.u32).bits))))] fun a HF => ?_
  replace HF := HF.sp 18 (vW (((qp c (l.take k)) ^^^ (l.getD k 0)) / 16 : Nat)) rfl (qdq .u32 ((qp c (l.take k)) ^^^ (l.getD k 0)) (j := 4) (q := 16) rfl rfl)
  refine fp HF 2 2 [(20, vW (IntKind.u32.wrap (BitVec.ofInt (IntKind.u32).bits (((qp c (l.take k)) ^^^ (l.getD k 0) : Nat) : Int) &&& BitVec.ofInt (IntKind.u32).bits 15).toNat))] fun a HF => ?_
  replace HF := HF.sp 20 (vW (((qp c (l.take k)) ^^^ (l.getD k 0)) % 16 : Nat)) rfl (qmp (n := 15) (j := 4) rfl (by decide) (by omega))
  refine s_fz HF HM 4 rfl (v := vP 0 ((((qp c (l.take k)) ^^^ (l.getD k 0)) % 16) * 1)) ((Yl.qe0 (ad := ⟨0, 0, none⟩) (m := 16) (y := ((qp c (l.take k)) ^^^ (l.getD k 0)) % 16) (sz := 1) rfl rfl rfl (by kernel_rfl) (by omega)).as (by rw [Addr.add_mid, Nat.zero_add])) fun a HF => ?_
  refine s_fz HF HM 5 rfl (v := vW (qaa.getD (((qp c (l.take k)) ^^^ (l.getD k 0)) % 16) 0)) (Yl.qd rfl rfl (by kernel_rfl) (fun _ h => qmq hL h hB (k := (((qp c (l.take k)) ^^^ (l.getD k 0)) % 16)) (by omega))) fun a HF => ?_
  refine fp HF 1 6 [(23, vW (IntKind.u32.wrap (BitVec.ofInt (IntKind.u32).bits ((((qp c (l.take k)) ^^^ (l.getD k 0)) / 16 : Nat) : Int) ^^^ BitVec.ofInt (IntKind.u32).bits (qaa.getD (((qp c (l.take k)) ^^^ (l.getD k 0)) % 16) 0 : Int)).toNat))] fun a HF => ?_
  replace HF := HF.sp 23 (vW (nib (qp c (l.take k) ^^^ l.getD k 0))) rfl (by have h := qf4 (m := (qp c (l.take k) ^^^ l.getD k 0) / 16) (n := qaa.getD ((qp c (l.take k) ^^^ l.getD k 0) % 16) 0) (by omega) (qf7 _ (by omega)); exact h)
  refine fp HF 1 7 [(0, vW (nib (qp c (l.take k) ^^^ l.getD k 0)))] fun a HF => ?_
  refine s_d0 ?_
  have hz := q0k hy
  refine qa ?_
  refine fp HF 2 0 [(25, vW (Int.fdiv (nib (qp c (l.take k) ^^^ l.getD k 0) : Int) (2 ^ (min (4 : Int).toNat (IntKind.u32).bits))))] fun a HF => ?_
  replace HF := HF.sp 25 (vW ((nib (qp c (l.take k) ^^^ l.getD k 0)) / 16 : Nat)) rfl (qdq .u32 (nib (qp c (l.take k) ^^^ l.getD k 0)) (j := 4) (q := 16) rfl rfl)
  refine fp HF 2 2 [(27, vW (IntKind.u32.wrap (BitVec.ofInt (IntKind.u32).bits (nib (qp c (l.take k) ^^^ l.getD k 0) : Int) &&& BitVec.ofInt (IntKind.u32).bits 15).toNat))] fun a HF => ?_
  replace HF := HF.sp 27 (vW ((nib (qp c (l.take k) ^^^ l.getD k 0)) % 16 : Nat)) rfl (qmp (n := 15) (j := 4) rfl (by decide) (by omega))
  refine s_fz HF HM 4 rfl (v := vP 0 (((nib (qp c (l.take k) ^^^ l.getD k 0)) % 16) * 1)) ((Yl.qe0 (ad := ⟨0, 0, none⟩) (m := 16) (y := (nib (qp c (l.take k) ^^^ l.getD k 0)) % 16) (sz := 1) rfl rfl rfl (by kernel_rfl) (by omega)).as (by rw [Addr.add_mid, Nat.zero_add])) fun a HF => ?_
  refine s_fz HF HM 5 rfl (v := vW (qaa.getD ((nib (qp c (l.take k) ^^^ l.getD k 0)) % 16) 0)) (Yl.qd rfl rfl (by kernel_rfl) (fun _ h => qmq hL h hB (k := ((nib (qp c (l.take k) ^^^ l.getD k 0)) % 16)) (by omega))) fun a HF => ?_
  refine fp HF 1 6 [(30, vW (IntKind.u32.wrap (BitVec.ofInt (IntKind.u32).bits (((nib (qp c (l.take k) ^^^ l.getD k 0)) / 16 : Nat) : Int) ^^^ BitVec.ofInt (IntKind.u32).bits (qaa.getD ((nib (qp c (l.take k) ^^^ l.getD k 0)) % 16) 0 : Int)).toNat))] fun a HF => ?_
  replace HF := HF.sp 30 (vW (qp c (l.take (k + 1)))) rfl (by have h := qf4 (m := nib (qp c (l.take k) ^^^ l.getD k 0) / 16) (n := qaa.getD (nib (qp c (l.take k) ^^^ l.getD k 0) % 16) 0) (by omega) (qf7 _ (by omega)); rw [qf8 (by omega)]; exact h)
  refine fp HF 1 7 [(0, vW (qp c (l.take (k + 1))))] fun a HF => ?_
  refine s_d0 (qa ?_)
  refine fp HF 1 0 [(31, vI (IntKind.i64.wrap ((k : Int) + 1)))] fun a HF => ?_
  replace HF := HF.sp 31 (vI (k + 1 : Nat)) rfl (qc (by omega) (by omega))
  refine fp HF 1 1 [(9, vI (k + 1 : Nat))] fun a HF => ?_
  refine s_d0 ?_
  exact ⟨_, (by omega), k + 1, by omega, rfl, HF.sub (by kernel_rfl), HM.pk []⟩
 have hd10 := of_decide_eq_false hb10
 obtain rfl : n = k := by omega
 refine s_cf HF (wp_exit (s_fs1 ?_))
 refine fp HF 2 0 [(4, vW (qp c (l.take n)))] fun a HF => ?_
 refine s_d0 (wp_ret ?_)
 exact s_rt1 rfl HF rfl (⟨by rw [List.take_of_length_le (by omega)], HM.below⟩)
theorem qpl (c : Nat) (hc0 : c < 4294967296) (A : Option Addr) (n cp : Nat) (l : List Nat) (B : Nat) (w : World) (hL : LaidX B w) (hB : B ≤ w.heap.size) (hr : Rd w w.heap.size 1 A n (l.map B8)) (hln : l.length = n) (hn : n ≤ 140737488355328) (hl : ∀ b ∈ l, b < 256) :
    Calls Tryz.prog 70 #[.int .u32 (c : Int), .slice A n cp] w (Is w (.int .u32 ((qp (c ^^^ 4294967295) l ^^^ 4294967295 : Nat) : Int))) := by
 refine s_ce Tryz.func70 [vW c, .slice A n cp] [(0, vW c), (1, .slice A n cp)] fun a HF => ?_
 have HM := Mem.start w
 refine s_fs1 ?_
 refine fp HF 1 0 [(4, vW 0)] fun a HF => ?_
 refine s_d0 ?_
 have hc := qdr hc0 (show 4294967295 < 4294967296 by decide)
 have hcr := qci l hc hl
 refine s_fs1 ?_
 refine fp HF 1 0 [(5, vW c)] fun a HF => ?_
 refine s_fz HF HM 1 rfl (v := vW (c ^^^ 4294967295 : Nat)) (Yl.q12 (m := c) rfl rfl (by omega)) fun a HF => ?_
 refine fp HF 1 2 [(7, .slice A n cp)] fun a HF => ?_
 refine fo HF 3 rfl rfl (e_is HF HM [vW (c ^^^ 4294967295 : Nat), .slice A n cp] (vW (qp (c ^^^ 4294967295) l)) rfl rfl (qpk _ hc _ _ _ l B _ (hL.mem HM hB) (HM.le hB) (HM.old hr) hln hn hl) fun w8 hbw HM a HF => ?_)
 refine s_fz HF HM 4 rfl (v := vW ((qp (c ^^^ 4294967295) l) ^^^ 4294967295 : Nat)) (Yl.q12 (m := qp (c ^^^ 4294967295) l) rfl rfl (by omega)) fun a HF => ?_
 refine fp HF 1 5 [(4, vW ((qp (c ^^^ 4294967295) l) ^^^ 4294967295 : Nat))] fun a HF => ?_
 refine s_d0 (wp_ret ?_)
 exact s_rt1 rfl HF rfl (⟨rfl, HM.below⟩)
theorem qpm (A : Option Addr) (n cp : Nat) (l : List Nat) (B : Nat) (w : World) (hL : LaidX B w) (hB : B ≤ w.heap.size) (hr : Rd w w.heap.size 1 A n (l.map B8)) (hln : l.length = n) (hn : n ≤ 140737488355328) (hl : ∀ b ∈ l, b < 256) :
    Calls Tryz.prog 35 #[.slice A n cp] w (Is w (.int .u32 (qv l : Int))) := by
 refine s_ce Tryz.func35 [.slice A n cp] [(0, .slice A n cp)] fun a HF => ?_
 have HM := Mem.start w
 refine s_fs1 ?_
 refine fp HF 1 0 [(2, vW 0)] fun a HF => ?_
 refine s_d0 (s_fs1 ?_)
 refine fp HF 1 0 [(3, .slice A n cp)] fun a HF => ?_
 refine fo HF 1 rfl rfl ?_
 refine e_cl HF [vW 0, .slice A n cp] rfl rfl (qpl 0 (by decide) _ _ _ l B _ (hL.mem HM hB) (HM.le hB) (HM.old hr) hln hn hl) ?_
 rintro _ w4 ⟨rfl, hbw⟩
 rw [show (qp (0 ^^^ 4294967295) l ^^^ 4294967295 : Nat) = qv l from quh (qci l (by decide) hl)]
 refine ⟨_, rfl, ?_⟩
 replace HM := HM.call hbw
 clear HF; intro a HF
 refine fp HF 1 2 [(2, vW (qv l))] fun a HF => ?_
 refine s_d0 (wp_ret ?_)
 exact s_rt1 rfl HF rfl (⟨rfl, HM.below⟩)
theorem qtb : SI Tryz.prog 82 3 := ⟨by kernel_rfl, by kernel_rfl⟩
theorem qn0 : EI Tryz.prog 73 82 (.agg #[.string (ByteArray.mk #[]), .int .i64 0, .int .i64 0]) 3 32 := ⟨by kernel_rfl, by kernel_rfl, rfl, by omega⟩
def markB (k : Nat) : Nat := (8000024 + k) * 11400714819323198485 % 18446744073709551616 / 72057594037927936
def marks (k : Nat) : List Nat := (List.range k).map markB
theorem qp0 (k : Nat) : marks (k + 1) = marks k ++ [markB k] := by unfold marks; rw [List.range_succ, List.map_append]; rfl
theorem qwi (k : Nat) : markB k < 256 := by unfold markB; omega
def q1q (w : World) (l : List Nat) (r : Ending) (w' : World) : Prop :=
 (∃ A c, r = .returned (.slice A l.length c) ∧ w'.ownsRow w.heap.size 5 1 (.slice A (l.length + 12) c) (l.length + 12) ((l ++ marks 12).map B8) ∧ l.length + 12 ≤ c) ∧ Below w.heap.size w w'
theorem qwj (k : Nat) (hk : k ≤ 1000) : IntKind.u64.wrap ((8000024 + k : Nat) : Int) = ((8000024 + k : Nat) : Int) := by rw [IntKind.wrap_u64]; omega
theorem qwk (k : Nat) : IntKind.u64.wrap (((8000024 + k : Nat) : Int) * 11400714819323198485) = (((8000024 + k) * 11400714819323198485 % 18446744073709551616 : Nat) : Int) := by rw [IntKind.wrap_u64]; omega
theorem qwl (x : Nat) : Int.fdiv (x : Int) (2 ^ (min (56 : Int).toNat (IntKind.u64).bits)) = ((x / 72057594037927936 : Nat) : Int) := by
 rw [show (2 : Int) ^ (min (56 : Int).toNat (IntKind.u64).bits) = 72057594037927936 from by decide, Int.fdiv_eq_ediv_of_nonneg _ (by decide)]
 rfl
theorem qz1 (k : Nat) : IntKind.u8.wrap (((8000024 + k) * 11400714819323198485 % 18446744073709551616 / 72057594037927936 : Nat) : Int) = (markB k : Int) := by
 have := qwi k
 unfold markB at *
 rw [IntKind.wrap_u8]
 omega
theorem qty {l : List Nat} {n k : Nat} (hl : l.length = n) (h : k < n + 12) : (k < n → ∃ x, l[k]? = some x ∧ (l ++ marks 12)[k]? = some x) ∧ (n ≤ k → (l ++ marks 12)[k]? = some (markB (k - n))) := by
 refine ⟨fun hk => ⟨l[k], List.getElem?_eq_getElem (by omega), ?_⟩, fun hk => ?_⟩
 ·rw [List.getElem?_append_left (by omega)]; exact List.getElem?_eq_getElem (by omega)
 ·rw [List.getElem?_append_right (by omega), hl]
  unfold marks
  rw [List.getElem?_map, List.getElem?_range (by omega)]
  rfl
theorem qwm (k : Nat) (hk : k ≤ 1000) (w : World) : Calls Tryz.prog 75 #[.int .i64 1, .int .i64 (k : Int)] w fun r w' => r = .returned (.int .i64 ((8000024 + k : Nat) : Int)) ∧ Below w.heap.size w w' := by
 refine s_ce Tryz.func75 [vI 1, vI k] [(0, vI 1), (1, vI k)] fun a HF => ?_
 have HM := Mem.start w
 refine s_fs1 ?_
 refine fp HF 1 0 [(4, vI 0)] fun a HF => ?_
 refine s_d0 (s_fs1 ?_)
 refine fp HF 5 0 [(9, vI (IntKind.i64.wrap (8000024 + (k : Int))))] fun a HF => ?_
 replace HF := HF.sp 9 (vI (8000024 + k : Nat)) rfl (by rw [IntWalk.i64_in _ (by omega)]; simp)
 refine fp HF 1 5 [(4, vI (8000024 + k : Nat))] fun a HF => ?_
 refine s_d0 (wp_ret ?_)
 exact s_rt1 rfl HF rfl (⟨rfl, HM.below⟩)
theorem qfg (k : Nat) (hk : k ≤ 1000) (w : World) : Calls Tryz.prog 71 #[.int .i64 1, .int .i64 (k : Int)] w fun r w' => r = .returned (.int .u8 (markB k : Int)) ∧ Below w.heap.size w w' := by
 refine s_ce Tryz.func71 [vI 1, vI k] [(0, vI 1), (1, vI k)] fun a HF => ?_
 have HM := Mem.start w
 refine s_fs1 ?_
 refine fp HF 1 0 [(4, vB 0)] fun a HF => ?_
 refine s_d0 (s_fs1 ?_)
 refine fp HF 2 0 [(6, vI k), (5, vI 1)] fun a HF => ?_
 refine fo HF 2 rfl rfl ?_
 refine e_cl HF [vI 1, vI k] rfl rfl (qwm k hk _) ?_
 rintro _ w7 ⟨rfl, hbw⟩
 refine ⟨_, rfl, ?_⟩
 replace HM := HM.call hbw
 clear HF; intro a HF
 refine fp HF 1 3 [(8, vQ (IntKind.u64.wrap ((8000024 + k : Nat) : Int)))] fun a HF => ?_
 replace HF := HF.sp 8 (vQ (8000024 + k : Nat)) rfl (by rw [qwj k hk])
 refine fp HF 1 4 [(9, vQ (IntKind.u64.wrap (((8000024 + k : Nat) : Int) * 11400714819323198485)))] fun a HF => ?_
 replace HF := HF.sp 9 (vQ ((8000024 + k) * 11400714819323198485 % 18446744073709551616 : Nat)) rfl (by rw [qwk k])
 refine fp HF 1 5 [(10, vQ (Int.fdiv (((8000024 + k) * 11400714819323198485 % 18446744073709551616 : Nat) : Int) (2 ^ (min (56 : Int).toNat (IntKind.u64).bits))))] fun a HF => ?_
 replace HF := HF.sp 10 (vQ ((8000024 + k) * 11400714819323198485 % 18446744073709551616 / 72057594037927936 : Nat)) rfl (by rw [qwl])
 refine fp HF 1 6 [(11, vB (IntKind.u8.wrap (((8000024 + k) * 11400714819323198485 % 18446744073709551616 / 72057594037927936 : Nat) : Int)))] fun a HF => ?_
 replace HF := HF.sp 11 (vB (markB k)) rfl (by rw [qz1 k])
 refine fp HF 1 7 [(4, vB (markB k))] fun a HF => ?_
 refine s_d0 (wp_ret ?_)
 exact s_rt1 rfl HF rfl (⟨rfl, HM.below⟩)
theorem qwn (A : Option Addr) (n c : Nat) (l : List Nat) (w : World) (hr : Rd w w.heap.size 1 A n (l.map B8)) (hn : n ≤ 140737488351232) (hln : l.length = n) :
    Calls Tryz.prog 38 #[.slice A n c] w (q1q w l) := by
 refine s_ce Tryz.func38 [.slice A n c] [(0, .slice A n c)] fun a HF => ?_
 have HM := Mem.start w
 refine s_fs1 ?_
 refine fp HF 1 0 [(2, .slice none 0 0)] fun a HF => ?_
 refine s_d0 (s_fs1 ?_)
 refine fp HF 1 0 [(5, .slice A n c)] fun a HF => ?_
 refine s_fl HF 1 fun a HF => ?_
 refine fp HF 1 2 [(7, vI (IntKind.i64.wrap ((n : Int) + 12)))] fun a HF => ?_
 replace HF := HF.sp 7 (vI (n + 12 : Nat)) rfl (by rw [IntWalk.i64_in _ (by omega)]; simp)
 refine fo HF 3 rfl rfl ?_
 refine qx4 HF HM (m := (n + 12)) rfl ei_u8 rfl rfl (by omega) (by omega) rfl (by decide) ?_
 clear HF HM; intro a w8 g8 HF HM
 refine fp HF 1 4 [(3, vS g8 0 (n + 12))] fun a HF => ?_
 refine s_d0 (s_fs1 ?_)
 refine fp HF 2 0 [(10, .slice A n c), (9, vS g8 0 (n + 12))] fun a HF => ?_
 refine fo HF 2 rfl rfl ?_
 refine qih HF HM (i := 0) rfl ei_u8 rfl rfl rfl (news := (l.map B8)) (HM.old hr) (qjt _) (by omega) (by omega) rfl (by decide) ?_
 clear HF HM; intro a w11 A11 c11 HF HM hc11
 refine fp HF 1 3 [(3, .slice A11 (0 + n) c11)] fun a HF => ?_
 refine s_d0 ?_
 have hnA11 : 0 + n = n + 0 := by omega
 replace HM := HM.reRow (i := 0) (ys := (l ++ marks 0).map B8) rfl hnA11 (by simp [marks])
 rw [hnA11] at hc11
 replace HF := HF.sp 3 (.slice A11 (n + 0) c11) rfl (by rw [hnA11])
 replace HF := HF.sp 11 (.slice A11 (n + 0) c11) rfl (by rw [hnA11])
 refine wp_seq (s_fs1 ?_)
 refine fp HF 1 0 [(4, vI 0)] fun a HF => ?_
 refine s_d0 (wp_block ?_)
 refine qi (fun mS aS wS => ∃ (k : Nat) (Ak : Option Addr) (ck : Nat), (k ≤ 12) ∧ (n + k ≤ ck) ∧ mS = 12 - k ∧ Fr aS 25 [] [(4, vI k), (11, .slice A11 (n + 0) c11), (3, .slice Ak (n + k) ck), (2, .slice none 0 0), (0, .slice A n c)] ∧ Mem w wS [.row (.slice Ak (n + k) ck) (n + k) ((l ++ marks k).map B8) 5 1]) (m := 12 - 0) ⟨0, A11, c11, by omega, hc11, rfl, HF.sub (by kernel_rfl), HM.pk [0]⟩ ?_
 clear HF HM; rintro mS a w_ ⟨k, Ak, ck, hk, hck, rfl, HF, HM⟩
 refine wp_seq (s_fs1 ?_)
 refine fp HF 2 0 [(13, .bool (decide ((k : Int) < (12 : Int))))] fun a HF => ?_
 refine s_d0 ?_
 rcases HF.tf 13 rfl with ⟨hb13, HF⟩ | ⟨hb13, HF⟩
 ·
  have hk13 : k < 12 := by have := of_decide_eq_true hb13; omega
  refine s_ct HF (wp_skip (wp_seq (wp_block (qa ?_))))
  refine fp HF 2 0 [(17, vI k), (16, .slice Ak (n + k) ck)] fun a HF => ?_
  refine fo HF 2 rfl rfl ?_
  refine e_cl HF [vI 1, vI k] rfl rfl (qfg k (by omega) _) ?_
  rintro _ w18 ⟨rfl, hbw⟩
  refine ⟨_, rfl, ?_⟩
  replace HM := HM.call hbw
  clear HF; intro a HF
  refine fo HF 3 rfl rfl (s_el HF HM ei_u8 [(0, vB (markB k))] #[vB (markB k)] ?_)
  clear HF HM; intro a w19 g19 HF HM
  refine fo HF 4 rfl rfl (qo HF HM (i := 1) rfl ei_u8 rfl rfl rfl (news := [B8 (markB k)]) (HM.rdBlk (i := 0) (n := 1) (size := 1) rfl rfl) (by simp [Value.oneCell', U64, B8]) (by omega) (by omega) rfl (by decide) ?_)
  clear HF HM; intro a w20 A20 c20 HF HM hc20
  refine fp HF 1 5 [(3, .slice A20 (n + k + 1) c20)] fun a HF => ?_
  refine s_d0 ?_
  have hnA20 : n + k + 1 = n + (k + 1) := by omega
  replace HM := HM.reRow (i := 1) (ys := (l ++ marks (k + 1)).map B8) rfl hnA20 (by rw [qp0]; simp)
  rw [hnA20] at hc20
  replace HF := HF.sp 3 (.slice A20 (n + (k + 1)) c20) rfl (by rw [hnA20])
  replace HF := HF.sp 20 (.slice A20 (n + (k + 1)) c20) rfl (by rw [hnA20])
  refine qa ?_
  refine fp HF 2 0 [(15, vI (IntKind.i64.wrap ((k : Int) + 1)))] fun a HF => ?_
  replace HF := HF.sp 15 (vI (k + 1 : Nat)) rfl (by rw [IntWalk.i64_in _ (by omega)]; simp)
  refine fp HF 1 2 [(4, vI (k + 1 : Nat))] fun a HF => ?_
  refine s_d0 ?_
  exact ⟨_, (by omega), k + 1, A20, c20, by omega, hc20, rfl, HF.sub (by kernel_rfl), HM.pk [1]⟩
 obtain rfl : k = 12 := by have := of_decide_eq_false hb13; omega
 refine s_cf HF (wp_exit (s_fs1 ?_))
 refine fp HF 2 0 [(22, .slice A n c), (21, .slice Ak (n + 12) ck)] fun a HF => ?_
 refine s_fl HF 2 fun a HF => ?_
 refine s_fz HF HM 3 rfl (v := .slice Ak n ck) (Yl.qap ei_u8 (j := n) rfl rfl rfl (by omega)) fun a HF => ?_
 refine fp HF 1 4 [(2, .slice Ak n ck)] fun a HF => ?_
 refine s_d0 (wp_ret ?_)
 exact s_rt1 rfl HF rfl (⟨⟨Ak, ck, by rw [hln], by rw [hln]; exact HM.own (i := 0) rfl, by omega⟩, HM.below⟩)
theorem qwo (A A2 : Option Addr) (n c c2 : Nat) (l : List Nat) (w : World) (hr : Rd w w.heap.size 1 A (n + 12) ((l ++ marks 12).map B8)) (hc : n + 12 ≤ c) (hr2 : Rd w w.heap.size 1 A2 n (l.map B8)) (hn : n ≤ 140737488351232) (hln : l.length = n) :
    Calls Tryz.prog 47 #[.slice A n c, .slice A2 n c2] w (Is w (.bool true)) := by
 refine s_ce Tryz.func47 [.slice A n c, .slice A2 n c2] [(0, .slice A n c), (1, .slice A2 n c2)] fun a HF => ?_
 have HM := Mem.start w
 refine s_fs1 ?_
 refine fp HF 1 0 [(4, .bool false)] fun a HF => ?_
 refine s_d0 (wp_seq (s_fs1 ?_))
 refine fp HF 1 0 [(7, .slice A n c)] fun a HF => ?_
 refine s_fl HF 1 fun a HF => ?_
 refine fp HF 1 2 [(9, .slice A2 n c2)] fun a HF => ?_
 refine s_fl HF 3 fun a HF => ?_
 refine fp HF 1 4 [(11, .bool ((n : Int) != (n : Int)))] fun a HF => ?_
 replace HF := HF.sp 11 (.bool false) rfl (by simp)
 refine s_d0 (s_cf HF (wp_skip (s_fs1 ?_)))
 refine fp HF 2 0 [(13, .slice A2 n c2), (12, .slice A n c)] fun a HF => ?_
 refine s_fl HF 2 fun a HF => ?_
 refine fp HF 1 3 [(15, vI (IntKind.i64.wrap ((n : Int) + 12)))] fun a HF => ?_
 replace HF := HF.sp 15 (vI (n + 12 : Nat)) rfl (by rw [IntWalk.i64_in _ (by omega)]; simp)
 refine s_fz HF HM 4 rfl (v := .slice A (n + 12) c) (Yl.qap ei_u8 (j := (n + 12)) rfl rfl rfl (hc)) fun a HF => ?_
 refine fp HF 1 5 [(5, .slice A (n + 12) c)] fun a HF => ?_
 refine s_d0 (wp_seq (s_fs1 ?_))
 refine fp HF 1 0 [(6, vI 0)] fun a HF => ?_
 refine s_d0 (wp_block ?_)
 refine qi (fun mS aS wS => ∃ (k : Nat), (k ≤ n + 12) ∧ mS = n + 12 - k ∧ Fr aS 58 [] [(6, vI k), (5, .slice A (n + 12) c), (11, .bool false), (4, .bool false), (0, .slice A n c), (1, .slice A2 n c2)] ∧ Mem w wS []) (m := n + 12 - 0) ⟨0, Nat.zero_le _, rfl, HF.sub (by kernel_rfl), HM.pk []⟩ ?_
 clear HF HM; rintro mS a w_ ⟨k, hk, rfl, HF, HM⟩
 refine wp_seq (s_fs1 ?_)
 refine fp HF 2 0 [(18, .slice A (n + 12) c), (17, vI k)] fun a HF => ?_
 refine s_fl HF 2 fun a HF => ?_
 refine fp HF 1 3 [(20, .bool (decide ((k : Int) < ((n + 12) : Int))))] fun a HF => ?_
 refine s_d0 ?_
 rcases HF.tf 20 rfl with ⟨hb20, HF⟩ | ⟨hb20, HF⟩
 ·
  have hk20 : k < n + 12 := by have := of_decide_eq_true hb20; omega
  refine s_ct HF (wp_skip (wp_seq (wp_block ?_)))
  refine qa3 (fun aS wS => Fr aS 58 [] [(57, .bool false), (20, .bool true), (6, vI k), (5, .slice A (n + 12) c), (11, .bool false), (4, .bool false), (0, .slice A n c), (1, .slice A2 n c2)] ∧ Mem w wS []) ?_ ?_
  ·
   refine za HM [] [] [] fun HM HS => ?_
   refine ap HF (fun _ => HS) [0, 1] (bf 35 [0, 1]) [(24, .slice A2 n c2), (23, vI k)] fun a HF => ?_
   refine s_al HF HS 2 fun a HF => ?_
   refine ap HF (fun _ => HS) [3, 4] (bf 35 [0, 1, 2, 3, 4]) [(27, .bool (decide ((k : Int) < (n : Int))))] fun a HF => ?_
   rcases HF.tf 27 rfl with ⟨hb27, HF⟩ | ⟨hb27, HF⟩
   ·
    have hk26 : k < n := by have := of_decide_eq_true hb27; omega
    obtain ⟨x, hx1, hx2⟩ := (qty hln hk20).1 hk26
    refine ap HF (fun _ => HS) [5, 6, 9, 10] (bf 35 [0, 1, 2, 3, 4, 5, 6, 9, 10]) [(33, vI k), (32, .slice A2 n c2), (29, vI k), (28, .slice A (n + 12) c)] fun a HF => ?_
    obtain ⟨gA, oA, rfl, _⟩ := hr.qj (Nat.lt_of_le_of_lt (Nat.zero_le _) (show k < (n + 12) from hk20)) (by decide)
    refine s_az HF HS 7 rfl (v := vP gA (oA + k * 1)) (Yl.ix gA oA k 1 rfl rfl rfl (hk20)) fun a HF => ?_
    refine s_az HF HS 8 rfl (v := vB x) (Yl.qd rfl rfl (by kernel_rfl) (fun _ h => (h.old hr).zn (k := k) (zk (F := B8) (k := k) (x := x) (hx2)))) fun a HF => ?_
    obtain ⟨gA2, oA2, rfl, _⟩ := hr2.qj (Nat.lt_of_le_of_lt (Nat.zero_le _) (show k < n from hk26)) (by decide)
    refine s_az HF HS 11 rfl (v := vP gA2 (oA2 + k * 1)) (Yl.ix gA2 oA2 k 1 rfl rfl rfl (hk26)) fun a HF => ?_
    refine s_az HF HS 12 rfl (v := vB x) (Yl.qd rfl rfl (by kernel_rfl) (fun _ h => (h.old hr2).zn (k := k) (zk (F := B8) (k := k) (x := x) (hx1)))) fun a HF => ?_
    refine qh HF (fun _ => HS) (i := 13) rfl rfl (d := 36) rfl (by decide) (by kernel_rfl) (fun _ _ _ h => h) (v := .bool ((x : Int) == (x : Int))) (fun _ => Yl.pure (by kernel_rfl)) fun a HF => ?_
    replace HF := HF.sp 36 (.bool true) rfl (by simp)
    refine ap HF (fun _ => HS) [14, 15, 16, 17, 18] (bt 35 [19, 20, 21, 22, 23, 24, 25, 26, 27, 28, 29, 30, 31, 32, 33, 34]) [(41, .slice (some ⟨gA2, oA2, none⟩) n c2), (40, vI k), (39, .bool false)] fun a HF => ?_
    refine s_al HF HS 19 fun a HF => ?_
    refine qh HF (fun _ => HS) (i := 20) rfl rfl (d := 43) rfl (by decide) (by kernel_rfl) (fun _ _ _ h => h) (v := .bool (decide ((k : Int) ≥ (n : Int)))) (fun _ => Yl.pure (by kernel_rfl)) fun a HF => ?_
    replace HF := HF.sp 43 (.bool false) rfl (by rw [decide_eq_false (by omega)])
    refine ap HF (fun _ => HS) [21, 22, 23, 24, 25, 26, 27, 28, 29, 30, 31, 32, 33, 34] (bt 35 []) [(57, .bool false)] fun a HF => ?_
    refine qk (by kernel_rfl) ?_
    exact ⟨HF.sub (by kernel_rfl), HM.pk []⟩
   have hk26 : n ≤ k := by have := of_decide_eq_false hb27; omega
   have hx3 := (qty hln hk20).2 hk26
   refine ap HF (fun _ => HS) [5, 6, 7, 8, 9, 10, 11, 12, 13, 14, 15, 16, 17, 18] (bt 35 [19, 20, 21, 22, 23, 24, 25, 26, 27, 28, 29, 30, 31, 32, 33, 34]) [(41, .slice A2 n c2), (40, vI k), (39, .bool false)] fun a HF => ?_
   refine s_al HF HS 19 fun a HF => ?_
   refine qh HF (fun _ => HS) (i := 20) rfl rfl (d := 43) rfl (by decide) (by kernel_rfl) (fun _ _ _ h => h) (v := .bool (decide ((k : Int) ≥ (n : Int)))) (fun _ => Yl.pure (by kernel_rfl)) fun a HF => ?_
   replace HF := HF.sp 43 (.bool true) rfl (by rw [decide_eq_true (by omega)])
   refine ap HF (fun _ => HS) [21, 22, 23, 26, 27] (bt 35 [24, 25, 28, 29, 30, 31, 32, 33, 34]) [(50, .slice A2 n c2), (49, vI k), (46, vI k), (45, .slice A (n + 12) c), (44, .bool true)] fun a HF => ?_
   obtain ⟨gA, oA, rfl, _⟩ := hr.qj (Nat.lt_of_le_of_lt (Nat.zero_le _) (show k < (n + 12) from hk20)) (by decide)
   refine s_az HF HS 24 rfl (v := vP gA (oA + k * 1)) (Yl.ix gA oA k 1 rfl rfl rfl (hk20)) fun a HF => ?_
   refine s_az HF HS 25 rfl (v := vB (markB (k - n))) (Yl.qd rfl rfl (by kernel_rfl) (fun _ h => (h.old hr).zn (k := k) (zk (F := B8) (k := k) (x := (markB (k - n))) (hx3)))) fun a HF => ?_
   refine s_al HF HS 28 fun a HF => ?_
   refine qh HF (fun _ => HS) (i := 29) rfl rfl (d := 52) rfl (by decide) (by kernel_rfl) (fun _ _ _ h => h) (v := vI (IntKind.i64.wrap ((k : Int) - (n : Int)))) (fun _ => Yl.pure (by kernel_rfl)) fun a HF => ?_
   replace HF := HF.sp 52 (vI (k - n : Nat)) rfl (by rw [IntWalk.i64_in _ (by omega)]; congr 1; omega)
   refine qe [30] (by kernel_rfl) rfl ?_
   refine all_cons ?_ all_nil
   refine qf HF (i := 30) rfl rfl ?_
   refine e_cl HF [vI 1, vI (k - n : Nat)] rfl rfl (qfg (k - n) (by omega) _) ?_
   rintro _ w53 ⟨rfl, hbw⟩
   refine ⟨_, rfl, ?_⟩
   replace HM := HM.call hbw
   clear HF; intro a HF
   refine keepS (HM.pk []) (fun HS => ?_)
   refine qh HF (fun _ => HS) (i := 31) rfl rfl (d := 54) rfl (by decide) (by kernel_rfl) (fun _ _ _ h => h) (v := .bool (((markB (k - n)) : Int) == (markB (k - n) : Int))) (fun _ => Yl.pure (by kernel_rfl)) fun a HF => ?_
   replace HF := HF.sp 54 (.bool true) rfl (by simp)
   refine ap HF (fun _ => HS) [32, 33, 34] (bt 35 []) [(57, .bool false)] fun a HF => ?_
   refine qk (by kernel_rfl) ?_
   exact ⟨HF.sub (by kernel_rfl), HM.pk []⟩
  clear HF HM; rintro a w7 ⟨HF, HM⟩
  refine s_cf HF (wp_skip (qa ?_))
  refine fp HF 2 0 [(22, vI (IntKind.i64.wrap ((k : Int) + 1)))] fun a HF => ?_
  replace HF := HF.sp 22 (vI (k + 1 : Nat)) rfl (by rw [IntWalk.i64_in _ (by omega)]; simp)
  refine fp HF 1 2 [(6, vI (k + 1 : Nat))] fun a HF => ?_
  refine s_d0 ?_
  exact ⟨_, (by omega), k + 1, by omega, rfl, HF.sub (by kernel_rfl), HM.pk []⟩
 refine s_cf HF (wp_exit (s_fs1 ?_))
 refine fp HF 1 0 [(4, .bool true)] fun a HF => ?_
 refine s_d0 (wp_ret ?_)
 exact s_rt1 rfl HF rfl (⟨rfl, HM.below⟩)
theorem qps {l : List Nat} {n : Nat} (hln : l.length = n) (h : 4 ≤ n) : (((qv (l.take (n - 4)) : Nat) : Int) == ((l.getD (n - 4) 0 + l.getD (n - 4 + 1) 0 * 256 + l.getD (n - 4 + 2) 0 * 65536 + l.getD (n - 4 + 3) 0 * 16777216 : Nat) : Int)) = q0 l := by
 subst hln
 have hd : ∀ i, (l.drop (l.length - 4)).getD i 0 = l.getD (l.length - 4 + i) 0 := fun i => by rw [List.getD_eq_getElem?_getD, List.getElem?_drop, ← List.getD_eq_getElem?_getD]
 unfold q0 num4
 rw [hd, hd, hd, hd, Bool.eq_iff_iff, beq_iff_eq, decide_eq_true_eq]
 simp only [Nat.add_zero]
 constructor
 ·intro h1; exact ⟨h, by omega⟩
 ·intro h1; have := h1.2; omega
theorem qfb {l : List Nat} {n : Nat} (hln : l.length = n) (h : n < 4) : q0 l = false := by unfold q0; rw [decide_eq_false]; omega
theorem qpt (A : Option Addr) (n cp : Nat) (l : List Nat) (B : Nat) (w : World) (hL : LaidX B w) (hB : B ≤ w.heap.size) (hr : Rd w w.heap.size 1 A n (l.map B8)) (hc : n ≤ cp) (hln : l.length = n) (hn : n ≤ 140737488355328) (hl : ∀ b ∈ l, b < 256) :
    Calls Tryz.prog 34 #[.slice A n cp] w (Is w (.bool (q0 l))) := by
 refine s_ce Tryz.func34 [.slice A n cp] [(0, .slice A n cp)] fun a HF => ?_
 have HM := Mem.start w
 refine s_fs1 ?_
 refine fp HF 1 0 [(2, .bool false)] fun a HF => ?_
 refine s_d0 (s_fs1 ?_)
 refine fp HF 1 0 [(4, .slice A n cp)] fun a HF => ?_
 refine s_fl HF 1 fun a HF => ?_
 refine fp HF 1 2 [(6, vI (IntKind.i64.wrap ((n : Int) - 4)))] fun a HF => ?_
 replace HF := HF.sp 6 (vI ((n : Int) - 4)) rfl (qqj ⟨by omega, by omega⟩)
 refine fp HF 1 3 [(3, vI ((n : Int) - 4))] fun a HF => ?_
 refine s_d0 (wp_seq (s_fs1 ?_))
 refine fp HF 2 0 [(8, .bool (decide (((n : Int) - 4 : Int) < (0 : Int))))] fun a HF => ?_
 refine s_d0 ?_
 rcases HF.tf 8 rfl with ⟨hb8, HF⟩ | ⟨hb8, HF⟩
 ·
  have hd8 := of_decide_eq_true hb8
  refine s_ct HF (s_fs1 ?_)
  refine fp HF 1 0 [(2, .bool false)] fun a HF => ?_
  refine s_d0 (wp_ret ?_)
  exact s_rt1 rfl HF rfl (⟨by rw [qfb hln (by omega)], HM.below⟩)
 have hd8 := of_decide_eq_false hb8
 replace HF := HF.sp 3 (.int .i64 ((n - 4 : Nat) : Int)) rfl (by congr 1; omega)
 refine s_cf HF (wp_skip (wp_seq ?_))
 refine za HM [] [] [] fun HM HS => ?_
 refine ap HF (fun _ => HS) [0, 1, 4, 5, 9, 10, 17, 18, 25, 26] (bf 35 [0, 1, 4, 5, 9, 10, 17, 18, 25, 26]) [(35, vI (n - 4 : Nat)), (34, .slice A n cp), (27, vI (n - 4 : Nat)), (26, .slice A n cp), (19, vI (n - 4 : Nat)), (18, .slice A n cp), (14, vI (n - 4 : Nat)), (13, .slice A n cp), (10, vI (n - 4 : Nat)), (9, .slice A n cp)] fun a HF => ?_
 refine s_az HF HS 2 rfl (v := .slice A (n - 4) cp) (Yl.qap ei_u8 (j := n - 4) rfl rfl rfl (by omega)) fun a HF => ?_
 obtain ⟨gA, oA, rfl, _⟩ := hr.qj (Nat.lt_of_le_of_lt (Nat.zero_le _) (show n - 4 < n from by omega)) (by decide)
 refine s_az HF HS 6 rfl (v := vP gA (oA + (n - 4) * 1)) (Yl.ix gA oA (n - 4) 1 rfl rfl rfl) fun a HF => ?_
 have hx40 := getD_lt hl (k := (n - 4)) (by first | omega | (simp; omega))
 refine s_az HF HS 7 rfl (v := vB (l.getD (n - 4) 0)) (Yl.o1 hr (n - 4) 0 (by first | omega | (simp; omega)) rfl rfl) fun a HF => ?_
 refine qh HF (fun _ => HS) (i := 8) rfl rfl (d := 17) rfl (by decide) (by kernel_rfl) (fun _ _ _ h => h) (v := vW (IntKind.u32.wrap ((l.getD (n - 4) 0) : Int))) (fun _ => Yl.pure (by kernel_rfl)) fun a HF => ?_
 replace HF := HF.sp 17 (vW (l.getD (n - 4) 0)) rfl (qas rfl (by omega))
 refine qh HF (fun _ => HS) (i := 11) rfl rfl (d := 20) rfl (by decide) (by kernel_rfl) (fun _ _ _ h => h) (v := vI (IntKind.i64.wrap (((n - 4 : Nat) : Int) + 1))) (fun _ => Yl.pure (by kernel_rfl)) fun a HF => ?_
 replace HF := HF.sp 20 (vI ((n - 4) + 1 : Nat)) rfl (qc (by omega) (by omega))
 refine s_az HF HS 12 rfl (v := vP gA (oA + ((n - 4) + 1) * 1)) (Yl.ix gA oA ((n - 4) + 1) 1 rfl rfl rfl) fun a HF => ?_
 have hx47 := getD_lt hl (k := ((n - 4) + 1)) (by first | omega | (simp; omega))
 refine s_az HF HS 13 rfl (v := vB (l.getD ((n - 4) + 1) 0)) (Yl.o1 hr ((n - 4) + 1) 0 (by first | omega | (simp; omega)) rfl rfl) fun a HF => ?_
 refine qh HF (fun _ => HS) (i := 14) rfl rfl (d := 23) rfl (by decide) (by kernel_rfl) (fun _ _ _ h => h) (v := vW (IntKind.u32.wrap ((l.getD ((n - 4) + 1) 0) : Int))) (fun _ => Yl.pure (by kernel_rfl)) fun a HF => ?_
 replace HF := HF.sp 23 (vW (l.getD ((n - 4) + 1) 0)) rfl (qas rfl (by omega))
 refine qh HF (fun _ => HS) (i := 15) rfl rfl (d := 24) rfl (by decide) (by kernel_rfl) (fun _ _ _ h => h) (v := vW (IntKind.u32.wrap (((l.getD ((n - 4) + 1) 0) : Int) * 2 ^ (min (8 : Int).toNat (IntKind.u32).bits)))) (fun _ => Yl.pure (by kernel_rfl)) fun a HF => ?_
 replace HF := HF.sp 24 (vW ((l.getD ((n - 4) + 1) 0) * 256 : Nat)) rfl (qas (by rw [show (2 : Int) ^ (min (8 : Int).toNat (IntKind.u32).bits) = 256 from rfl]; omega) (by omega))
 refine qh HF (fun _ => HS) (i := 16) rfl rfl (d := 25) rfl (by decide) (by kernel_rfl) (fun _ _ _ h => h) (v := vW (IntKind.u32.wrap (BitVec.ofInt (IntKind.u32).bits ((l.getD (n - 4) 0) : Int) ||| BitVec.ofInt (IntKind.u32).bits (((l.getD ((n - 4) + 1) 0) * 256 : Nat) : Int)).toNat)) (fun _ => Yl.pure (by kernel_rfl)) fun a HF => ?_
 replace HF := HF.sp 25 (vW (l.getD (n - 4) 0 + l.getD (n - 4 + 1) 0 * 256 : Nat)) rfl (qik (m := l.getD (n - 4) 0) (n := l.getD (n - 4 + 1) 0) (j := 8) (p := 256) rfl (by omega) (by omega))
 refine qh HF (fun _ => HS) (i := 19) rfl rfl (d := 28) rfl (by decide) (by kernel_rfl) (fun _ _ _ h => h) (v := vI (IntKind.i64.wrap (((n - 4 : Nat) : Int) + 2))) (fun _ => Yl.pure (by kernel_rfl)) fun a HF => ?_
 replace HF := HF.sp 28 (vI ((n - 4) + 2 : Nat)) rfl (qc (by omega) (by omega))
 refine s_az HF HS 20 rfl (v := vP gA (oA + ((n - 4) + 2) * 1)) (Yl.ix gA oA ((n - 4) + 2) 1 rfl rfl rfl) fun a HF => ?_
 have hx58 := getD_lt hl (k := ((n - 4) + 2)) (by first | omega | (simp; omega))
 refine s_az HF HS 21 rfl (v := vB (l.getD ((n - 4) + 2) 0)) (Yl.o1 hr ((n - 4) + 2) 0 (by first | omega | (simp; omega)) rfl rfl) fun a HF => ?_
 refine qh HF (fun _ => HS) (i := 22) rfl rfl (d := 31) rfl (by decide) (by kernel_rfl) (fun _ _ _ h => h) (v := vW (IntKind.u32.wrap ((l.getD ((n - 4) + 2) 0) : Int))) (fun _ => Yl.pure (by kernel_rfl)) fun a HF => ?_
 replace HF := HF.sp 31 (vW (l.getD ((n - 4) + 2) 0)) rfl (qas rfl (by omega))
 refine qh HF (fun _ => HS) (i := 23) rfl rfl (d := 32) rfl (by decide) (by kernel_rfl) (fun _ _ _ h => h) (v := vW (IntKind.u32.wrap (((l.getD ((n - 4) + 2) 0) : Int) * 2 ^ (min (16 : Int).toNat (IntKind.u32).bits)))) (fun _ => Yl.pure (by kernel_rfl)) fun a HF => ?_
 replace HF := HF.sp 32 (vW ((l.getD ((n - 4) + 2) 0) * 65536 : Nat)) rfl (qas (by rw [show (2 : Int) ^ (min (16 : Int).toNat (IntKind.u32).bits) = 65536 from rfl]; omega) (by omega))
 refine qh HF (fun _ => HS) (i := 24) rfl rfl (d := 33) rfl (by decide) (by kernel_rfl) (fun _ _ _ h => h) (v := vW (IntKind.u32.wrap (BitVec.ofInt (IntKind.u32).bits ((l.getD (n - 4) 0 + l.getD (n - 4 + 1) 0 * 256 : Nat) : Int) ||| BitVec.ofInt (IntKind.u32).bits (((l.getD ((n - 4) + 2) 0) * 65536 : Nat) : Int)).toNat)) (fun _ => Yl.pure (by kernel_rfl)) fun a HF => ?_
 replace HF := HF.sp 33 (vW (l.getD (n - 4) 0 + l.getD (n - 4 + 1) 0 * 256 + l.getD (n - 4 + 2) 0 * 65536 : Nat)) rfl (qik (m := l.getD (n - 4) 0 + l.getD (n - 4 + 1) 0 * 256) (n := l.getD (n - 4 + 2) 0) (j := 16) (p := 65536) rfl (by omega) (by omega))
 refine qh HF (fun _ => HS) (i := 27) rfl rfl (d := 36) rfl (by decide) (by kernel_rfl) (fun _ _ _ h => h) (v := vI (IntKind.i64.wrap (((n - 4 : Nat) : Int) + 3))) (fun _ => Yl.pure (by kernel_rfl)) fun a HF => ?_
 replace HF := HF.sp 36 (vI ((n - 4) + 3 : Nat)) rfl (qc (by omega) (by omega))
 refine s_az HF HS 28 rfl (v := vP gA (oA + ((n - 4) + 3) * 1)) (Yl.ix gA oA ((n - 4) + 3) 1 rfl rfl rfl) fun a HF => ?_
 have hx69 := getD_lt hl (k := ((n - 4) + 3)) (by first | omega | (simp; omega))
 refine s_az HF HS 29 rfl (v := vB (l.getD ((n - 4) + 3) 0)) (Yl.o1 hr ((n - 4) + 3) 0 (by first | omega | (simp; omega)) rfl rfl) fun a HF => ?_
 refine qh HF (fun _ => HS) (i := 30) rfl rfl (d := 39) rfl (by decide) (by kernel_rfl) (fun _ _ _ h => h) (v := vW (IntKind.u32.wrap ((l.getD ((n - 4) + 3) 0) : Int))) (fun _ => Yl.pure (by kernel_rfl)) fun a HF => ?_
 replace HF := HF.sp 39 (vW (l.getD ((n - 4) + 3) 0)) rfl (qas rfl (by omega))
 refine qh HF (fun _ => HS) (i := 31) rfl rfl (d := 40) rfl (by decide) (by kernel_rfl) (fun _ _ _ h => h) (v := vW (IntKind.u32.wrap (((l.getD ((n - 4) + 3) 0) : Int) * 2 ^ (min (24 : Int).toNat (IntKind.u32).bits)))) (fun _ => Yl.pure (by kernel_rfl)) fun a HF => ?_
 replace HF := HF.sp 40 (vW ((l.getD ((n - 4) + 3) 0) * 16777216 : Nat)) rfl (qas (by rw [show (2 : Int) ^ (min (24 : Int).toNat (IntKind.u32).bits) = 16777216 from rfl]; omega) (by omega))
 refine qh HF (fun _ => HS) (i := 32) rfl rfl (d := 41) rfl (by decide) (by kernel_rfl) (fun _ _ _ h => h) (v := vW (IntKind.u32.wrap (BitVec.ofInt (IntKind.u32).bits ((l.getD (n - 4) 0 + l.getD (n - 4 + 1) 0 * 256 + l.getD (n - 4 + 2) 0 * 65536 : Nat) : Int) ||| BitVec.ofInt (IntKind.u32).bits (((l.getD ((n - 4) + 3) 0) * 16777216 : Nat) : Int)).toNat)) (fun _ => Yl.pure (by kernel_rfl)) fun a HF => ?_
 replace HF := HF.sp 41 (vW (l.getD (n - 4) 0 + l.getD (n - 4 + 1) 0 * 256 + l.getD (n - 4 + 2) 0 * 65536 + l.getD (n - 4 + 3) 0 * 16777216 : Nat)) rfl (qik (m := l.getD (n - 4) 0 + l.getD (n - 4 + 1) 0 * 256 + l.getD (n - 4 + 2) 0 * 65536) (n := l.getD (n - 4 + 3) 0) (j := 24) (p := 16777216) rfl (by omega) (by omega))
 refine qe [3] (by kernel_rfl) rfl ?_
 refine all_cons ?_ all_nil
 refine qf HF (i := 3) rfl rfl ?_
 refine e_is HF HM [.slice (some ⟨gA, oA, none⟩) (n - 4) cp] (vW (qv (l.take (n - 4)))) rfl rfl (qpm _ _ _ (l.take (n - 4)) B _ (hL.mem HM hB) (HM.le hB) ((HM.old hr).toB8 (by omega)) (by rw [List.length_take]; omega) (by omega) (qep hl _)) fun w12 hbw HM a HF => ?_
 refine keepS (HM.pk []) (fun HS => ?_)
 refine ap HF (fun _ => HS) [33, 34] (bt 35 []) [(2, .bool ((qv (l.take (n - 4)) : Int) == ((l.getD (n - 4) 0 + l.getD (n - 4 + 1) 0 * 256 + l.getD (n - 4 + 2) 0 * 65536 + l.getD (n - 4 + 3) 0 * 16777216 : Nat) : Int)))] fun a HF => ?_
 refine qk (by kernel_rfl) ?_
 replace HF := HF.to [(2, .bool ((qv (l.take (n - 4)) : Int) == ((l.getD (n - 4) 0 + l.getD (n - 4 + 1) 0 * 256 + l.getD (n - 4 + 2) 0 * 65536 + l.getD (n - 4 + 3) 0 * 16777216 : Nat) : Int))), (3, vI (n - 4 : Nat)), (8, .bool false), (0, .slice (some ⟨gA, oA, none⟩) n cp)]
 refine wp_ret ?_
 exact s_rt1 rfl HF rfl (⟨by rw [qps hln (by omega)], HM.below⟩)
def waUp (l : List Nat) (k : Nat) : List Nat := (l.take k).flatMap vbytes
theorem qk2 {l : List Nat} {k : Nat} (h : k < l.length) : waUp l (k + 1) = waUp l k ++ vbytes (l.getD k 0) := by
 unfold waUp
 rw [← List.take_append_getElem (by omega : k < l.length), List.flatMap_append, List.getD_eq_getElem?_getD, List.getElem?_eq_getElem h]
 simp
theorem qoc (l : List Nat) (k : Nat) : (waUp l k).length ≤ 10 * k := by
 unfold waUp
 have h := qc7 (l.take k)
 rw [List.length_take] at h
 omega
theorem qpq (x : Nat) (w : World) (hx : x < 18446744073709551616) : Calls Tryz.prog 91 #[.int .u64 (x : Int)] w (qaw w (vbytes x)) :=
 (ql9 x w hx).mono fun e w' ⟨v, h1, h2, h3⟩ => by
  obtain ⟨A, c, rfl, hc⟩ := qfz h2
  exact ⟨⟨A, c, h1, h2, hc⟩, h3⟩
theorem qpr (A : Option Addr) (n c : Nat) (l : List Nat) (w : World) (hr : Rd w w.heap.size 1 A n (l.map U64)) (hln : l.length = n) (hl : ∀ x ∈ l, x < 18446744073709551616) (hn : n ≤ 1000000) :
    Calls Tryz.prog 58 #[.slice A n c] w (qaw w (l.flatMap vbytes)) := by
 refine s_ce Tryz.func58 [.slice A n c] [(0, .slice A n c)] fun a HF => ?_
 have HM := Mem.start w
 refine s_fs1 ?_
 refine fp HF 1 0 [(2, .slice none 0 0)] fun a HF => ?_
 refine s_d0 (s_fs1 ?_)
 refine fp HF 1 0 [(3, .slice none 0 0)] fun a HF => ?_
 refine s_d0 ?_
 replace HM := HM.nil 5 1
 refine wp_seq (s_fs1 ?_)
 refine fp HF 1 0 [(4, vI 0)] fun a HF => ?_
 refine s_d0 (wp_block ?_)
 refine qi (fun mS aS wS => ∃ (k : Nat) (Ak : Option Addr) (ck : Nat), (k ≤ n) ∧ ((waUp l k).length ≤ ck) ∧ mS = n - k ∧ Fr aS 19 [] [(4, vI k), (3, .slice Ak ((waUp l k).length) ck), (2, .slice none 0 0), (0, .slice A n c)] ∧ Mem w wS [.row (.slice Ak ((waUp l k).length) ck) ((waUp l k).length) ((waUp l k).map B8) 5 1]) (m := n - 0) ⟨0, none, 0, Nat.zero_le _, Nat.le_refl _, rfl, HF.sub (by kernel_rfl), HM.pk [0]⟩ ?_
 clear HF HM; rintro mS a w_ ⟨k, Ak, ck, hk, hck, rfl, HF, HM⟩
 refine wp_seq (s_fs1 ?_)
 refine fp HF 2 0 [(6, .slice A n c), (5, vI k)] fun a HF => ?_
 refine s_fl HF 2 fun a HF => ?_
 refine fp HF 1 3 [(8, .bool (decide ((k : Int) < (n : Int))))] fun a HF => ?_
 refine s_d0 ?_
 rcases HF.tf 8 rfl with ⟨hb8, HF⟩ | ⟨hb8, HF⟩
 ·
  have hd8 := of_decide_eq_true hb8
  have hk8 : k < n := by omega
  refine s_ct HF (wp_skip (wp_seq (wp_block (qa ?_))))
  refine fp HF 3 0 [(13, vI k), (12, .slice A n c), (11, .slice Ak ((waUp l k).length) ck)] fun a HF => ?_
  obtain ⟨gA, oA, rfl, _⟩ := hr.qj (Nat.lt_of_le_of_lt (Nat.zero_le _) (show k < n from by omega)) (by decide)
  refine s_fz HF HM 3 rfl (v := vP gA (oA + k * 1)) (Yl.ix gA oA k 1 rfl rfl rfl) fun a HF => ?_
  have hx39 := getD_lt hl (k := k) (by first | omega | (simp; omega))
  refine s_fz HF HM 4 rfl (v := vQ (l.getD k 0)) (Yl.o1 hr k 0 (by first | omega | (simp; omega)) rfl rfl) fun a HF => ?_
  refine fo HF 5 rfl rfl ?_
  refine s_ek HF HM [vQ (l.getD k 0)] (qpq (l.getD k 0) _ (hl _ (qu 0 (by omega)))) fun A16 c16 w16 hc16 HM a HF => ?_
  refine fo HF 6 rfl rfl (qo HF HM (i := 1) rfl ei_u8 rfl rfl rfl (news := ((vbytes (l.getD k 0)).map B8)) (HM.rd (i := 0) rfl) (qjt _) (by have := qoc l k; have := qbz (l.getD k 0); omega) (by have := qoc l k; have := qbz (l.getD k 0); omega) rfl (by decide) ?_)
  clear HF HM; intro a w17 A17 c17 HF HM hc17
  refine fp HF 1 7 [(3, .slice A17 (((waUp l k).length) + (((vbytes (l.getD k 0))).length)) c17)] fun a HF => ?_
  refine s_d0 ?_
  have hnA17 : ((waUp l k).length) + (((vbytes (l.getD k 0))).length) = (waUp l (k + 1)).length := by rw [qk2 (by omega)]; simp
  replace HM := HM.reRow (i := 1) (ys := (waUp l (k + 1)).map B8) rfl hnA17 (by rw [qk2 (by omega)]; simp)
  rw [hnA17] at hc17
  replace HF := HF.sp 3 (.slice A17 ((waUp l (k + 1)).length) c17) rfl (by rw [hnA17])
  replace HF := HF.sp 17 (.slice A17 ((waUp l (k + 1)).length) c17) rfl (by rw [hnA17])
  refine qa ?_
  refine fp HF 2 0 [(10, vI (IntKind.i64.wrap ((k : Int) + 1)))] fun a HF => ?_
  replace HF := HF.sp 10 (vI (k + 1 : Nat)) rfl (qc (by omega) (by omega))
  refine fp HF 1 2 [(4, vI (k + 1 : Nat))] fun a HF => ?_
  refine s_d0 ?_
  exact ⟨_, (by omega), k + 1, A17, c17, by omega, hc17, rfl, HF.sub (by kernel_rfl), HM.pk [1]⟩
 have hd8 := of_decide_eq_false hb8
 have hkn : k = n := by omega
 have hwa : waUp l k = l.flatMap vbytes := by unfold waUp; rw [List.take_of_length_le (by omega)]
 refine s_cf HF (wp_exit (s_fs1 ?_))
 refine fp HF 2 0 [(2, .slice Ak ((waUp l k).length) ck)] fun a HF => ?_
 refine s_d0 (wp_ret ?_)
 exact s_rt1 rfl HF rfl (qjx (HM.own (i := 0) rfl) hck (by rw [hwa]) hwa HM.below)
theorem qmd {w : World} {base n m c size : Nat} {e : TypeId} {A : Option Addr} {xs : List Value} (h : w.ownsRow base e size (.slice A n c) n xs) (hm : m ≤ n) : w.ownsRow base e size (.slice A m c) m (xs.take (m * size)) := by
 have hms : m * size ≤ n * size := Nat.mul_le_mul_right _ hm
 refine ⟨by rw [List.length_take, h.1]; omega, ?_⟩
 rcases h.2 with ⟨hv, hn⟩ | ⟨g, cap, cur, hv, hb, hg, h1, h2, h3, h4⟩
 ·injection hv with a1 a2 a3
  subst a1; subst a3; subst hn
  have : m = 0 := by omega
  subst this
  exact .inl ⟨rfl, rfl⟩
 ·injection hv with a1 a2 a3
  subst a1; subst a3
  refine .inr ⟨g, c, cur, rfl, hb, hg, by omega, h2, h3, ?_⟩
  rw [← h4, List.take_take]
  congr 1
  omega
section
variable {W w : World} {fs : List Fact}
theorem Mem.cutRow (h : Mem W w fs) {i n m c size : Nat} {e : TypeId} {A : Option Addr} {xs ys : List Value} (hi : fs[i]? = some (.row (.slice A n c) n xs e size)) (hm : m ≤ n) (hy : xs.take (m * size) = ys) : Mem W w (fs.set i (.row (.slice A m c) m ys e size)) := by
 subst hy
 have hb := h.holds _ (List.mem_of_getElem? hi)
 exact h.turn hi h.below (fun _ _ _ => rfl) (qmd hb hm) (fun g' hg' => .inl (by cases A <;> exact hg'))
end
theorem qar : EI Tryz.prog 192 3 (.int .i64 0) 1 8 := ⟨by kernel_rfl, by kernel_rfl, rfl, by omega⟩
def PolIs (w : World) (l : List Nat) (r : Ending) (w' : World) : Prop :=
 (∃ A c, r = .returned (.slice A l.length c) ∧ w'.ownsRow w.heap.size 3 1 (.slice A l.length c) l.length (l.map I64v) ∧ l.length ≤ c) ∧ Below w.heap.size w w'
def DivIs (w : World) (A : Option Addr) (c : Nat) (a b : List Nat) (r : Ending) (w' : World) : Prop :=
 (∃ vq X c', r = .returned (.tuple #[vq, .slice X (divR (a.length + 1) a b).length c']) ∧ (a.length < b.length → X = A ∧ c' = c) ∧ (b.length ≤ a.length → w'.ownsRow w.heap.size 3 1 (.slice X (divR (a.length + 1) a b).length c') (divR (a.length + 1) a b).length ((divR (a.length + 1) a b).map I64v) ∧ (divR (a.length + 1) a b).length ≤ c')) ∧ Below w.heap.size w w'
def P01 (l : List Nat) : Prop := ∀ x ∈ l, x < 2
def Tr (l : List Nat) : Prop := 0 < l.length → l.getD (l.length - 1) 0 ≠ 0
theorem qtc {l : List Nat} (h : P01 l) (k : Nat) : l.getD k 0 < 2 := by
 rw [List.getD_eq_getElem?_getD]
 cases hk : l[k]? with
 | none => simp
 | some x => exact h x (List.mem_of_getElem? hk)
theorem qgz {l : List Nat} {k : Nat} (h : 0 < k) (hk : k ≤ l.length) : l.take k = l.take (k - 1) ++ [l.getD (k - 1) 0] := by
 obtain ⟨j, rfl⟩ : ∃ j, k = j + 1 := ⟨k - 1, by omega⟩
 rw [Nat.add_sub_cancel, List.take_succ_eq_append_getElem (by omega), List.getD_eq_getElem?_getD, List.getElem?_eq_getElem (by omega)]
 rfl
theorem qkz {l : List Nat} {k : Nat} (h : 0 < k) (hk : k ≤ l.length) (h0 : l.getD (k - 1) 0 = 0) (ht : trimL (l.take k) = trimL l) : trimL (l.take (k - 1)) = trimL l := by
 rw [← ht, qgz h hk, h0, qc9]
theorem qd7 {l : List Nat} {k : Nat} (hk : k ≤ l.length) (h0 : 0 < k → l.getD (k - 1) 0 ≠ 0) (ht : trimL (l.take k) = trimL l) : trimL l = l.take k := by
 rw [← ht]
 by_cases h : 0 < k
 ·rw [qgz h hk, qhh (h0 h)]
 ·have : k = 0 := by omega
  subst this
  rfl
theorem qi6 (l : List Nat) : trimL l <+: l := by
 have h := List.dropWhile_suffix (l := l.reverse) (· == 0)
 have := List.reverse_prefix.2 h
 rwa [List.reverse_reverse] at this
theorem qtd (l : List Nat) : l.take (trimL l).length = trimL l := (List.prefix_iff_eq_take.1 (qi6 l)).symm
theorem qd8 (l : List Nat) : (trimL l).length ≤ l.length := (qi6 l).length_le
theorem qd9 (l : List Nat) : (l.map I64v).take ((trimL l).length * 1) = (trimL l).map I64v := by rw [Nat.mul_one, ← List.map_take, qtd]
theorem qte {l : List Nat} (h : P01 l) : P01 (trimL l) := fun x hx => h x ((qi6 l).sublist.mem hx)
theorem qxv : ∀ (n : Nat) (l : List Nat), l.length = n → Tr (trimL l)
 | 0, l, h => by
  rw [List.length_eq_zero_iff] at h
  subst h
  intro h; simp [trimL] at h
 | n + 1, l, h => by
  have e := qgz (l := l) (k := l.length) (by omega) (by omega)
  rw [List.take_length] at e
  by_cases h0 : l.getD (l.length - 1) 0 = 0
  ·rw [e, h0, qc9]
   exact qxv n _ (by rw [List.length_take]; omega)
  ·rw [e, qhh h0, ← e]
   intro _
   exact h0
theorem qme (l : List Nat) : Tr (trimL l) := qxv _ l rfl
theorem qay (f : Nat → Nat) (k : Nat) : (List.range (k + 1)).map f = (List.range k).map f ++ [f k] := by rw [List.range_succ, List.map_append]; rfl
def qbw (p k : Nat) : List Nat := (List.range k).map fun i => p / 2 ^ i % 2
theorem qmf (p k : Nat) : qbw p (k + 1) = qbw p k ++ [p / 2 ^ k % 2] := qay _ _
theorem qh6 (p k : Nat) : (qbw p k).length = k := by unfold qbw; rw [List.length_map, List.length_range]
def sumUp (a b : List Nat) (s k : Nat) : List Nat := (List.range k).map (sumAt a b s)
theorem qa6 (a b : List Nat) (s k : Nat) : sumUp a b s (k + 1) = sumUp a b s k ++ [sumAt a b s k] := qay _ _
theorem qk0 (a b : List Nat) (s k : Nat) : (sumUp a b s k).length = k := by unfold sumUp; rw [List.length_map, List.length_range]
theorem qtf (a b : List Nat) (s : Nat) : trimL (sumUp a b s (max a.length (b.length + s))) = sumL a b s := rfl
theorem qn1 {l : List Nat} {k : Nat} (h : l.length ≤ k) : l.getD k 0 = 0 := by rw [List.getD_eq_getElem?_getD, List.getElem?_eq_none h]; rfl
theorem qxw {a b : List Nat} {s k : Nat} (h1 : s ≤ k) (h2 : k - s < b.length) : sumAt a b s k = (a.getD k 0 + b.getD (k - s) 0) % 2 := if_pos ⟨h1, h2⟩
theorem q1n {a b : List Nat} {s k : Nat} (h1 : s ≤ k) (h2 : k - s < b.length) (h3 : a.length ≤ k) : sumAt a b s k = (0 + b.getD (k - s) 0) % 2 := by rw [qxw h1 h2, qn1 h3]
theorem qtg {a b : List Nat} {s k : Nat} (h : ¬ (s ≤ k ∧ k - s < b.length)) : sumAt a b s k = a.getD k 0 := if_neg h
theorem qxx {a b : List Nat} {s k : Nat} (h : ¬ (s ≤ k ∧ k - s < b.length)) (h3 : a.length ≤ k) : sumAt a b s k = 0 := by rw [qtg h, qn1 h3]
theorem qzq {a b : List Nat} (ha : P01 a) (s i : Nat) : sumAt a b s i < 2 := by
 unfold sumAt
 split
 ·omega
 ·exact qtc ha i
theorem sum01 {a b : List Nat} (ha : P01 a) (s : Nat) : P01 (sumL a b s) := by
 unfold sumL
 apply qte
 intro x hx
 obtain ⟨i, _, rfl⟩ := List.mem_map.1 hx
 exact qzq ha s i
theorem sumTr (a b : List Nat) (s : Nat) : Tr (sumL a b s) := qme _
theorem qzr (a b : List Nat) (s : Nat) : (sumL a b s).length ≤ max a.length (b.length + s) := by
 unfold sumL
 refine Nat.le_trans (qd8 _) ?_
 rw [List.length_map, List.length_range]
 exact Nat.le_refl _
theorem qfp {a b : List Nat} (ha : P01 a) (hb : P01 b) (hta : Tr a) (htb : Tr b) (h0 : 0 < b.length) (h : b.length ≤ a.length) : (sumL a b (a.length - b.length)).length < a.length := by
 have e : max a.length (b.length + (a.length - b.length)) = (a.length - 1) + 1 := by omega
 have h1 := hta (by omega)
 have h2 := htb h0
 have h3 := qtc ha (a.length - 1)
 have h4 := qtc hb (b.length - 1)
 unfold sumL
 rw [e, qay]
 have hz : sumAt a b (a.length - b.length) (a.length - 1) = 0 := by
  unfold sumAt
  rw [if_pos ⟨by omega, by omega⟩, show a.length - 1 - (a.length - b.length) = b.length - 1 by omega]
  omega
 rw [hz, qc9]
 refine Nat.lt_of_le_of_lt (qd8 _) ?_
 rw [List.length_map, List.length_range]
 omega
theorem qn2 {b : List Nat} (hb : P01 b) (htb : Tr b) (h0 : 0 < b.length) : ∀ (n : Nat) (a : List Nat), a.length = n → P01 a → Tr a → ∀ f g, a.length < f → a.length < g → divR f a b = divR g a b := by
 intro n
 induction n using Nat.strongRecOn with
 | _ n ih =>
  intro a hn ha hta f g hf hg
  obtain ⟨f, rfl⟩ : ∃ j, f = j + 1 := ⟨f - 1, by omega⟩
  obtain ⟨g, rfl⟩ : ∃ j, g = j + 1 := ⟨g - 1, by omega⟩
  rw [divR, divR]
  split
  ·rename_i h
   have hl := qfp ha hb hta htb h0 h
   exact ih _ (by omega) _ rfl (sum01 ha _) (sumTr _ _ _) f g (by omega) (by omega)
  ·rfl
theorem qn3 {a0 a b : List Nat} (hb : P01 b) (htb : Tr b) (h0 : 0 < b.length) (ha : P01 a) (hta : Tr a) (h : b.length ≤ a.length) (he : divR (a.length + 1) a b = divR (a0.length + 1) a0 b) :
  divR ((sumL a b (a.length - b.length)).length + 1) (sumL a b (a.length - b.length)) b = divR (a0.length + 1) a0 b := by
 have hl := qfp ha hb hta htb h0 h
 have e : divR (a.length + 1) a b = divR a.length (sumL a b (a.length - b.length)) b := by rw [divR, if_pos h]
 rw [← he, e]
 exact qn2 hb htb h0 _ _ rfl (sum01 ha _) (sumTr _ _ _) _ _ (by omega) (by omega)
theorem qn4 {a b : List Nat} (h : ¬ b.length ≤ a.length) : divR (a.length + 1) a b = a := by rw [divR, if_neg h]
theorem qn5 (p : Nat) : P01 (qjv p) := by
 unfold qjv
 apply qte
 intro x hx
 obtain ⟨i, _, rfl⟩ := List.mem_map.1 hx
 omega
theorem qn6 (p : Nat) : P01 (bitsOf p) := by
 unfold bitsOf
 apply qte
 intro x hx
 obtain ⟨i, _, rfl⟩ := List.mem_map.1 hx
 split <;> omega
theorem qn7 (p : Nat) : Tr (qjv p) := qme _
theorem qn8 (p : Nat) : Tr (bitsOf p) := qme _
theorem qdf : genP.length = 33 := by decide +kernel
theorem qi7 (p : Nat) : (bitsOf p).length ≤ 40 := by
 unfold bitsOf
 refine Nat.le_trans (qd8 _) ?_
 rw [List.length_map, List.length_range]
 exact Nat.le_refl _
theorem qzs {b : List Nat} (h0 : 0 < b.length) (hb : P01 b) (htb : Tr b) : ∀ (n : Nat) (a : List Nat), a.length = n → P01 a → Tr a → (divR (a.length + 1) a b).length < b.length := by
 intro n
 induction n using Nat.strongRecOn with
 | _ n ih =>
  intro a hn ha hta
  by_cases h : b.length ≤ a.length
  ·have hl := qfp ha hb hta htb h0 h
   have hs := qn3 hb htb h0 ha hta h rfl
   rw [← hs]
   exact ih _ (by omega) _ rfl (sum01 ha _) (sumTr _ _ _)
  ·rw [qn4 h]; omega
def linR (y : Nat) : List Nat := divR ((bitsOf y).length + 1) (bitsOf y) genP
theorem qn9 (y : Nat) : (linR y).length ≤ 32 := by
 have h := qzs (b := genP) (by rw [qdf]; decide) (qn5 _) (qn7 _) _ (bitsOf y) rfl (qn6 _) (qn8 _)
 rw [qdf] at h
 exact Nat.le_of_lt_succ h
theorem qth (y : Nat) : qqn (linR y) = z0 y := by
 unfold z0 linR
 have := qi7 y
 rw [qn2 (b := genP) (qn5 _) (qn7 _) (by rw [qdf]; decide) _ (bitsOf y) rfl (qn6 _) (qn8 _) ((bitsOf y).length + 1) 41 (by omega) (by omega)]
def remUp (r : List Nat) (k : Nat) : Nat := ((List.range k).map fun k => if r.getD k 0 = 1 then 2 ^ (31 - k) else 0).sum
theorem qcz (r : List Nat) (k : Nat) : remUp r (k + 1) = remUp r k + if r.getD k 0 = 1 then 2 ^ (31 - k) else 0 := by
 unfold remUp
 rw [qay, List.sum_append]
 simp
theorem qoa (r : List Nat) : ∀ k, k ≤ 32 → remUp r k + 2 ^ (32 - k) ≤ 4294967296
 | 0, _ => by show 0 + 2 ^ 32 ≤ _; decide
 | k + 1, h => by
  have ih := qoa r k (by omega)
  rw [qcz]
  have e1 : (2 : Nat) ^ (32 - k) = 2 ^ (32 - (k + 1)) * 2 := by rw [show 32 - k = (32 - (k + 1)) + 1 by omega, Nat.pow_succ]
  have e2 : (2 : Nat) ^ (31 - k) = 2 ^ (32 - (k + 1)) := by rw [show 31 - k = 32 - (k + 1) by omega]
  split <;> omega
theorem qk1 (r : List Nat) : remUp r r.length = qqn r := rfl
def qao (y k : Nat) : List Nat := (List.range 40).map fun i => if 40 - k ≤ i then y / 2 ^ (39 - i) % 2 else 0
theorem qai (y k : Nat) : (qao y k).length = 40 := by unfold qao; rw [List.length_map, List.length_range]
theorem qez (y k : Nat) {i : Nat} (h : i < 40) : (qao y k)[i]? = some (if 40 - k ≤ i then y / 2 ^ (39 - i) % 2 else 0) := by
 unfold qao
 rw [List.getElem?_map, List.getElem?_range h]
 rfl
theorem qmg (y : Nat) : qao y 0 = List.replicate 40 0 := by
 apply List.ext_getElem?
 intro i
 by_cases h : i < 40
 ·rw [qez y 0 h, if_neg (by omega), List.getElem?_replicate, if_pos h]
 ·rw [List.getElem?_eq_none (by rw [qai]; omega), List.getElem?_eq_none (by rw [List.length_replicate]; omega)]
theorem qmh {y k : Nat} (hk : k < 8) : (qao y k).set (39 - k) (y / 2 ^ k % 2) = qao y (k + 1) := by
 apply List.ext_getElem?
 intro i
 by_cases h : i < 40
 ·rw [List.getElem?_set, qez y (k + 1) h]
  by_cases hi : 39 - k = i
  ·rw [if_pos hi, if_pos (by rw [qai]; omega), if_pos (by omega), show 39 - i = k by omega]
  ·rw [if_neg hi, qez y k h]
   by_cases h2 : 40 - k ≤ i
   ·rw [if_pos h2, if_pos (by omega)]
   ·rw [if_neg h2, if_neg (by omega)]
 ·rw [List.getElem?_eq_none (by rw [List.length_set, qai]; omega), List.getElem?_eq_none (by rw [qai]; omega)]
theorem qh7 (y : Nat) : trimL (qao y 8) = bitsOf y := rfl
theorem pow31 (k : Nat) : 1 * 2 ^ (31 - k) ≤ 4294967295 := by
 have : (2 : Nat) ^ (31 - k) ≤ 2 ^ 31 := Nat.pow_le_pow_right (by decide) (by omega)
 omega
theorem qzt (r : List Nat) {k : Nat} (h : k < 32) : remUp r k + 1 * 2 ^ (31 - k) ≤ 4294967295 := by
 have h1 := qoa r k (by omega)
 have e1 : (2 : Nat) ^ (32 - k) = 2 ^ (31 - k) * 2 := by rw [show 32 - k = (31 - k) + 1 by omega, Nat.pow_succ]
 have : 0 < (2 : Nat) ^ (31 - k) := Nat.pow_pos (by decide)
 omega
theorem qti : linR 0 = [] := by decide +kernel
theorem qpp {l : List Nat} {n : Nat} (hl : ∀ x ∈ l, x < 256) (hln : l.length = n) : decide (sealL (l.take (n - 4)) = l) = q0 l := by
 subst hln
 rw [Bool.eq_iff_iff, decide_eq_true_eq]
 constructor
 ·intro h
  have := qlj (l := l.take (l.length - 4))
  rwa [h] at this
 ·intro h
  exact qqv hl h
theorem qv7 : ∀ y, y < 256 → y ≠ 0 → 33 ≤ (bitsOf y).length := by decide +kernel
theorem qob (A : Option Addr) (n c : Nat) (l : List Nat) (w : World) (hr : Rd w w.heap.size 1 A n (l.map I64v)) (hln : l.length = n) (hn : n ≤ 140737488355328) (hc : n ≤ c) :
    Calls Tryz.prog 147 #[.slice A n c] w (Is w (.slice A (trimL l).length c)) := by
 refine s_ce Tryz.func147 [.slice A n c] [(0, .slice A n c)] fun a HF => ?_
 have HM := Mem.start w
 refine s_fs1 ?_
 refine fp HF 1 0 [(2, .slice none 0 0)] fun a HF => ?_
 refine s_d0 (wp_seq (wp_block ?_))
 refine qi (fun mS aS wS => ∃ (k : Nat), (k ≤ n) ∧ (trimL (l.take k) = trimL l) ∧ mS = 0 + k ∧ Fr aS 21 [] [(2, .slice none 0 0), (0, .slice A k c)] ∧ Mem w wS []) (m := 0 + n) ⟨n, Nat.le_refl _, by rw [List.take_of_length_le (by omega)], rfl, HF.sub (by kernel_rfl), HM.pk []⟩ ?_
 clear HF HM; rintro mS a w_ ⟨k, hk, ht, rfl, HF, HM⟩
 refine wp_seq (s_fs1 ?_)
 refine fp HF 1 0 [(3, .slice A k c)] fun a HF => ?_
 refine s_fl HF 1 fun a HF => ?_
 refine fp HF 2 2 [(6, .bool (decide ((k : Int) > (0 : Int))))] fun a HF => ?_
 rcases HF.tf 6 rfl with ⟨hb6, HF⟩ | ⟨hb6, HF⟩
 ·
  have hd6 := of_decide_eq_true hb6
  have hk0 : 0 < k := by omega
  obtain ⟨gA, oA, rfl, _⟩ := hr.qj (Nat.lt_of_le_of_lt (Nat.zero_le _) (show 0 < n from by omega)) (by decide)
  refine fp HF 2 4 [(8, .slice (some ⟨gA, oA, none⟩) k c), (7, .slice (some ⟨gA, oA, none⟩) k c)] fun a HF => ?_
  refine s_fl HF 6 fun a HF => ?_
  refine fp HF 1 7 [(10, vI (IntKind.i64.wrap ((k : Int) - 1)))] fun a HF => ?_
  replace HF := HF.sp 10 (vI (k - 1 : Nat)) rfl (qc (by omega) (by omega))
  refine s_fz HF HM 8 rfl (v := vP gA (oA + (k - 1) * 1)) (Yl.ix gA oA (k - 1) 1 rfl rfl rfl) fun a HF => ?_
  refine s_fz HF HM 9 rfl (v := vI (l.getD (k - 1) 0)) (Yl.o1 hr (k - 1) 0 (by first | omega | (simp; omega)) rfl rfl) fun a HF => ?_
  refine fp HF 2 10 [(14, .bool (((l.getD (k - 1) 0) : Int) == (0 : Int)))] fun a HF => ?_
  refine s_d0 ?_
  rcases HF.tf 14 rfl with ⟨hb14, HF⟩ | ⟨hb14, HF⟩
  ·
   have hd14 := eq_of_beq hb14
   refine s_ct HF (wp_skip (wp_block (qa ?_)))
   refine fp HF 2 0 [(16, .slice (some ⟨gA, oA, none⟩) k c), (15, .slice (some ⟨gA, oA, none⟩) k c)] fun a HF => ?_
   refine s_fl HF 2 fun a HF => ?_
   refine fp HF 1 3 [(18, vI (IntKind.i64.wrap ((k : Int) - 1)))] fun a HF => ?_
   replace HF := HF.sp 18 (vI (k - 1 : Nat)) rfl (qc (by omega) (by omega))
   refine s_fz HF HM 4 rfl (v := .slice (some ⟨gA, oA, none⟩) (k - 1) c) (Yl.qap qar (j := k - 1) rfl rfl rfl (by omega)) fun a HF => ?_
   refine fp HF 1 5 [(0, .slice (some ⟨gA, oA, none⟩) (k - 1) c)] fun a HF => ?_
   refine s_d0 ?_
   exact ⟨_, (by omega), (k - 1), by omega, qkz (by omega) (by omega) (by omega) ht, rfl, HF.sub (by kernel_rfl), HM.pk []⟩
  have hd14 := ne_of_beq_false hb14
  refine s_cf HF (wp_exit (s_fs1 ?_))
  refine fp HF 2 0 [(2, .slice (some ⟨gA, oA, none⟩) k c)] fun a HF => ?_
  refine s_d0 (wp_ret ?_)
  exact s_rt1 rfl HF rfl (⟨by rw [qd7 (k := k) (by omega) (fun _ => by omega) ht, List.length_take, Nat.min_eq_left (by omega)], HM.below⟩)
 have hd6 := of_decide_eq_false hb6
 refine fp HF 8 4 [(14, .bool false)] fun a HF => ?_
 refine s_d0 (s_cf HF (wp_exit (s_fs1 ?_)))
 refine fp HF 2 0 [(2, .slice A k c)] fun a HF => ?_
 refine s_d0 (wp_ret ?_)
 exact s_rt1 rfl HF rfl (⟨by rw [qd7 (k := k) (by omega) (fun _ => by omega) ht, List.length_take, Nat.min_eq_left (by omega)], HM.below⟩)
theorem qtj (p : Nat) (hp : p < 18446744073709551616) (w : World) :
    Calls Tryz.prog 131 #[.int .u64 (p : Int)] w (PolIs w (qjv p)) := by
 refine s_ce Tryz.func131 [vQ p] [(0, vQ p)] fun a HF => ?_
 have HM := Mem.start w
 refine s_fs1 ?_
 refine fp HF 1 0 [(2, .slice none 0 0)] fun a HF => ?_
 refine s_d0 (s_fs1 ?_)
 refine fp HF 1 0 [(3, .slice none 0 0)] fun a HF => ?_
 refine s_d0 ?_
 replace HM := HM.nil 3 1
 refine wp_seq (s_fs1 ?_)
 refine fp HF 1 0 [(4, vI 0)] fun a HF => ?_
 refine s_d0 (wp_block ?_)
 refine qi (fun mS aS wS => ∃ (k : Nat) (Ak : Option Addr) (ck : Nat), (k ≤ 64) ∧ (k ≤ ck) ∧ mS = 64 - k ∧ Fr aS 19 [] [(4, vI k), (3, .slice Ak k ck), (2, .slice none 0 0), (0, vQ p)] ∧ Mem w wS [.row (.slice Ak k ck) k ((qbw p k).map I64v) 3 1]) (m := 64 - 0) ⟨0, none, 0, by omega, Nat.le_refl _, rfl, HF.sub (by kernel_rfl), HM.pk [0]⟩ ?_
 clear HF HM; rintro mS a w_ ⟨k, Ak, ck, hk, hck, rfl, HF, HM⟩
 refine wp_seq (s_fs1 ?_)
 refine fp HF 2 0 [(6, .bool (decide ((k : Int) < (64 : Int))))] fun a HF => ?_
 refine s_d0 ?_
 rcases HF.tf 6 rfl with ⟨hb6, HF⟩ | ⟨hb6, HF⟩
 ·
  have hd6 := of_decide_eq_true hb6
  refine s_ct HF (wp_skip (wp_seq (wp_block (qa ?_))))
  refine fp HF 3 0 [(11, vI k), (10, vQ p), (9, .slice Ak k ck)] fun a HF => ?_
  refine s_fz HF HM 3 rfl (v := vQ (p / 2 ^ k : Nat)) (Yl.shrN (m := p) (n := k) rfl rfl rfl (by show _ ≤ 64; omega)) fun a HF => ?_
  refine fp HF 1 4 [(13, vQ (Int.tmod ((p / 2 ^ k : Nat) : Int) 2))] fun a HF => ?_
  replace HF := HF.sp 13 (vQ ((p / 2 ^ k) % 2 : Nat)) rfl (qaj .u64 _ 2)
  refine fp HF 1 5 [(14, vI (IntKind.i64.wrap (((p / 2 ^ k) % 2 : Nat) : Int)))] fun a HF => ?_
  replace HF := HF.sp 14 (vI ((p / 2 ^ k) % 2 : Nat)) rfl (qc rfl (by omega))
  refine fo HF 6 rfl rfl (s_el HF HM qar [(0, vI ((p / 2 ^ k) % 2 : Nat))] #[vI ((p / 2 ^ k) % 2 : Nat)] ?_)
  clear HF HM; intro a w15 g15 HF HM
  refine fo HF 7 rfl rfl (qo HF HM (i := 1) rfl qar rfl rfl rfl (news := [I64v ((p / 2 ^ k) % 2)]) (HM.rdBlk (i := 0) (n := 1) (size := 1) rfl rfl) (by simp [Value.oneCell', I64v]) (by omega) (by omega) rfl (by decide) ?_)
  clear HF HM; intro a w16 A16 c16 HF HM hc16
  refine fp HF 1 8 [(3, .slice A16 (k + 1) c16)] fun a HF => ?_
  refine s_d0 ?_
  have hnA16 : k + 1 = k + 1 := rfl
  replace HM := HM.reRow (i := 1) (ys := (qbw p (k + 1)).map I64v) rfl hnA16 (by rw [qmf]; simp)
  rw [hnA16] at hc16
  replace HF := HF.sp 3 (.slice A16 (k + 1) c16) rfl (by rw [hnA16])
  replace HF := HF.sp 16 (.slice A16 (k + 1) c16) rfl (by rw [hnA16])
  refine qa ?_
  refine fp HF 2 0 [(8, vI (IntKind.i64.wrap ((k : Int) + 1)))] fun a HF => ?_
  replace HF := HF.sp 8 (vI (k + 1 : Nat)) rfl (qc (by omega) (by omega))
  refine fp HF 1 2 [(4, vI (k + 1 : Nat))] fun a HF => ?_
  refine s_d0 ?_
  exact ⟨_, (by omega), k + 1, A16, c16, by omega, hc16, rfl, HF.sub (by kernel_rfl), HM.pk [1]⟩
 have hd6 := of_decide_eq_false hb6
 obtain rfl : k = 64 := by omega
 refine s_cf HF (wp_exit (s_fs1 ?_))
 refine fp HF 1 0 [(17, .slice Ak 64 ck)] fun a HF => ?_
 refine fo HF 1 rfl rfl (e_is HF HM [.slice Ak 64 ck] (.slice Ak ((trimL (qbw p 64)).length) ck) rfl rfl (qob _ _ _ (qbw p 64) _ (HM.rd (i := 0) rfl) (qh6 p 64) (by omega) (by omega)) fun w18 hbw HM a HF => ?_)
 have htl18 := qd8 (qbw p 64)
 have hle18 : (trimL (qbw p 64)).length ≤ 64 := by rw [qh6 p 64] at htl18; exact htl18
 replace HM := HM.cutRow (i := 0) rfl hle18 (qd9 (qbw p 64))
 refine fp HF 1 2 [(2, .slice Ak ((trimL (qbw p 64)).length) ck)] fun a HF => ?_
 refine s_d0 (wp_ret ?_)
 exact s_rt1 rfl HF rfl (⟨⟨_, _, rfl, HM.own (i := 0) rfl, by show (trimL (qbw p 64)).length ≤ _; omega⟩, HM.below⟩)
theorem qh8 (A A2 : Option Addr) (c c2 : Nat) (p q : List Nat) (s : Nat) (w : World) (h1 : P01 p) (h2 : P01 q) (hr : Rd w w.heap.size 1 A p.length (p.map I64v)) (hr2 : Rd w w.heap.size 1 A2 q.length (q.map I64v)) (hp : p.length ≤ 1000000) (hq : q.length + s ≤ 1000000) :
    Calls Tryz.prog 146 #[.slice A p.length c, .slice A2 q.length c2, .int .i64 (s : Int)] w (PolIs w (sumL p q s)) := by
 refine s_ce Tryz.func146 [.slice A p.length c, .slice A2 q.length c2, vI s] [(0, .slice A p.length c), (1, .slice A2 q.length c2), (2, vI s)] fun a HF => ?_
 have HM := Mem.start w
 refine s_fs1 ?_
 refine fp HF 1 0 [(6, .slice none 0 0)] fun a HF => ?_
 refine s_d0 (s_fs1 ?_)
 refine fp HF 1 0 [(7, .slice none 0 0)] fun a HF => ?_
 refine s_d0 ?_
 replace HM := HM.nil 3 1
 refine wp_seq (s_fs1 ?_)
 refine fp HF 1 0 [(8, vI 0)] fun a HF => ?_
 refine s_d0 (wp_block ?_)
 refine qi (fun mS aS wS => ∃ (k : Nat) (Ak : Option Addr) (ck : Nat), (k ≤ (max p.length (q.length + s))) ∧ (k ≤ ck) ∧ mS = (max p.length (q.length + s)) - k ∧ Fr aS 58 [] [(8, vI k), (7, .slice Ak k ck), (6, .slice none 0 0), (0, .slice A p.length c), (1, .slice A2 q.length c2), (2, vI s)] ∧ Mem w wS [.row (.slice Ak k ck) k ((sumUp p q s k).map I64v) 3 1]) (m := (max p.length (q.length + s)) - 0) ⟨0, none, 0, Nat.zero_le _, Nat.le_refl _, rfl, HF.sub (by kernel_rfl), HM.pk [0]⟩ ?_
 clear HF HM; rintro mS a w_ ⟨k, Ak, ck, hk, hck, rfl, HF, HM⟩
 refine wp_seq (s_fs1 ?_)
 refine fp HF 2 0 [(11, .slice A p.length c), (10, vI k)] fun a HF => ?_
 refine s_fl HF 2 fun a HF => ?_
 refine fp HF 2 3 [(14, .bool (decide ((k : Int) < (p.length : Int))))] fun a HF => ?_
 rcases HF.tf 14 rfl with ⟨hb14, HF⟩ | ⟨hb14, HF⟩
 ·
  have hd14 := of_decide_eq_true hb14
  refine fp HF 7 5 [(21, .bool true)] fun a HF => ?_
  refine s_d0 (s_ct HF (wp_skip (wp_seq (wp_block (s_fs1 ?_)))))
  refine fp HF 1 0 [(9, vI 0)] fun a HF => ?_
  refine s_d0 (wp_seq (s_fs1 ?_))
  refine fp HF 2 0 [(25, .slice A p.length c), (24, vI k)] fun a HF => ?_
  refine s_fl HF 2 fun a HF => ?_
  refine fp HF 1 3 [(27, .bool (decide ((k : Int) < (p.length : Int))))] fun a HF => ?_
  refine s_d0 ?_
  rcases HF.tf 27 rfl with ⟨hb27, HF⟩ | ⟨hb27, HF⟩
  ·
   have hd27 := of_decide_eq_true hb27
   refine s_ct HF (qa ?_)
   refine fp HF 2 0 [(29, vI k), (28, .slice A p.length c)] fun a HF => ?_
   obtain ⟨gA, oA, rfl, _⟩ := hr.qj (Nat.lt_of_le_of_lt (Nat.zero_le _) (show k < p.length from by omega)) (by decide)
   refine s_fz HF HM 2 rfl (v := vP gA (oA + k * 1)) (Yl.ix gA oA k 1 rfl rfl rfl) fun a HF => ?_
   have hx54 := getD_lt h1 (k := k) (by first | omega | (simp; omega))
   refine s_fz HF HM 3 rfl (v := vI (p.getD k 0)) (Yl.o1 hr k 0 (by first | omega | (simp; omega)) rfl rfl) fun a HF => ?_
   refine fp HF 1 4 [(9, vI (p.getD k 0))] fun a HF => ?_
   refine s_d0 (wp_seq (s_fs1 ?_))
   refine fp HF 4 0 [(35, .bool (decide ((k : Int) ≥ (s : Int))))] fun a HF => ?_
   rcases HF.tf 35 rfl with ⟨hb35, HF⟩ | ⟨hb35, HF⟩
   ·
    have hd35 := of_decide_eq_true hb35
    refine fp HF 3 4 [(38, vI (IntKind.i64.wrap ((k : Int) - (s : Int))))] fun a HF => ?_
    replace HF := HF.sp 38 (vI (k - s : Nat)) rfl (qc (by omega) (by omega))
    refine fp HF 1 7 [(39, .slice A2 q.length c2)] fun a HF => ?_
    refine s_fl HF 8 fun a HF => ?_
    refine fp HF 2 9 [(42, .bool (decide (((k - s : Nat) : Int) < (q.length : Int))))] fun a HF => ?_
    refine s_d0 ?_
    rcases HF.tf 42 rfl with ⟨hb42, HF⟩ | ⟨hb42, HF⟩
    ·
     have hd42 := of_decide_eq_true hb42
     refine s_ct HF (qa ?_)
     refine fp HF 5 0 [(47, vI (IntKind.i64.wrap ((k : Int) - (s : Int)))), (44, .slice A2 q.length c2), (43, vI (p.getD k 0))] fun a HF => ?_
     replace HF := HF.sp 47 (vI (k - s : Nat)) rfl (qc (by omega) (by omega))
     obtain ⟨gA2, oA2, rfl, _⟩ := hr2.qj (Nat.lt_of_le_of_lt (Nat.zero_le _) (show k - s < q.length from by omega)) (by decide)
     refine s_fz HF HM 5 rfl (v := vP gA2 (oA2 + (k - s) * 1)) (Yl.ix gA2 oA2 (k - s) 1 rfl rfl rfl) fun a HF => ?_
     have hx80 := getD_lt h2 (k := (k - s)) (by first | omega | (simp; omega))
     refine s_fz HF HM 6 rfl (v := vI (q.getD (k - s) 0)) (Yl.o1 hr2 (k - s) 0 (by first | omega | (simp; omega)) rfl rfl) fun a HF => ?_
     refine fp HF 1 7 [(50, vI (IntKind.i64.wrap (((p.getD k 0) : Int) + ((q.getD (k - s) 0) : Int))))] fun a HF => ?_
     replace HF := HF.sp 50 (vI ((p.getD k 0) + (q.getD (k - s) 0) : Nat)) rfl (qc (by omega) (by omega))
     refine fp HF 1 8 [(51, vI (Int.tmod (((p.getD k 0) + (q.getD (k - s) 0) : Nat) : Int) 2))] fun a HF => ?_
     replace HF := HF.sp 51 (vI (((p.getD k 0) + (q.getD (k - s) 0)) % 2 : Nat)) rfl (qaj .i64 _ 2)
     refine fp HF 1 9 [(9, vI (((p.getD k 0) + (q.getD (k - s) 0)) % 2 : Nat))] fun a HF => ?_
     refine s_d0 (qa ?_)
     refine fp HF 2 0 [(53, vI (((p.getD k 0) + (q.getD (k - s) 0)) % 2 : Nat)), (52, .slice Ak k ck)] fun a HF => ?_
     refine fo HF 2 rfl rfl (s_el HF HM qar [(0, vI (((p.getD k 0) + (q.getD (k - s) 0)) % 2 : Nat))] #[vI (((p.getD k 0) + (q.getD (k - s) 0)) % 2 : Nat)] ?_)
     clear HF HM; intro a w54 g54 HF HM
     refine fo HF 3 rfl rfl (qo HF HM (i := 1) rfl qar rfl rfl rfl (news := [I64v (((p.getD k 0) + (q.getD (k - s) 0)) % 2)]) (HM.rdBlk (i := 0) (n := 1) (size := 1) rfl rfl) (by simp [Value.oneCell', I64v]) (by omega) (by omega) rfl (by decide) ?_)
     clear HF HM; intro a w55 A55 c55 HF HM hc55
     refine fp HF 1 4 [(7, .slice A55 (k + 1) c55)] fun a HF => ?_
     refine s_d0 ?_
     have hnA55 : k + 1 = k + 1 := rfl
     replace HM := HM.reRow (i := 1) (ys := (sumUp p q s (k + 1)).map I64v) rfl hnA55 (by rw [qa6, qxw (by omega) (by omega)]; simp)
     rw [hnA55] at hc55
     replace HF := HF.sp 7 (.slice A55 (k + 1) c55) rfl (by rw [hnA55])
     replace HF := HF.sp 55 (.slice A55 (k + 1) c55) rfl (by rw [hnA55])
     refine qa ?_
     refine fp HF 2 0 [(23, vI (IntKind.i64.wrap ((k : Int) + 1)))] fun a HF => ?_
     replace HF := HF.sp 23 (vI (k + 1 : Nat)) rfl (qc (by omega) (by omega))
     refine fp HF 1 2 [(8, vI (k + 1 : Nat))] fun a HF => ?_
     refine s_d0 ?_
     replace HF := HF.to [(8, vI (k + 1 : Nat)), (55, .slice A55 (k + 1) c55), (7, .slice A55 (k + 1) c55), (9, vI (((p.getD k 0) + (q.getD (k - s) 0)) % 2 : Nat)), (42, .bool true), (27, .bool true), (21, .bool true), (6, .slice none 0 0), (0, .slice (some ⟨gA, oA, none⟩) p.length c), (1, .slice (some ⟨gA2, oA2, none⟩) q.length c2), (2, vI s)]
     exact ⟨_, (by omega), k + 1, A55, c55, by omega, hc55, rfl, HF.sub (by kernel_rfl), HM.pk [1]⟩
    have hd42 := of_decide_eq_false hb42
    refine s_cf HF (wp_skip (qa ?_))
    refine fp HF 2 0 [(53, vI (p.getD k 0)), (52, .slice Ak k ck)] fun a HF => ?_
    refine fo HF 2 rfl rfl (s_el HF HM qar [(0, vI (p.getD k 0))] #[vI (p.getD k 0)] ?_)
    clear HF HM; intro a w54 g54 HF HM
    refine fo HF 3 rfl rfl (qo HF HM (i := 1) rfl qar rfl rfl rfl (news := [I64v (p.getD k 0)]) (HM.rdBlk (i := 0) (n := 1) (size := 1) rfl rfl) (by simp [Value.oneCell', I64v]) (by omega) (by omega) rfl (by decide) ?_)
    clear HF HM; intro a w55 A55 c55 HF HM hc55
    refine fp HF 1 4 [(7, .slice A55 (k + 1) c55)] fun a HF => ?_
    refine s_d0 ?_
    have hnA55 : k + 1 = k + 1 := rfl
    replace HM := HM.reRow (i := 1) (ys := (sumUp p q s (k + 1)).map I64v) rfl hnA55 (by rw [qa6, qtg (by omega)]; simp)
    rw [hnA55] at hc55
    replace HF := HF.sp 7 (.slice A55 (k + 1) c55) rfl (by rw [hnA55])
    replace HF := HF.sp 55 (.slice A55 (k + 1) c55) rfl (by rw [hnA55])
    refine qa ?_
    refine fp HF 2 0 [(23, vI (IntKind.i64.wrap ((k : Int) + 1)))] fun a HF => ?_
    replace HF := HF.sp 23 (vI (k + 1 : Nat)) rfl (qc (by omega) (by omega))
    refine fp HF 1 2 [(8, vI (k + 1 : Nat))] fun a HF => ?_
    refine s_d0 ?_
    exact ⟨_, (by omega), k + 1, A55, c55, by omega, hc55, rfl, HF.sub (by kernel_rfl), HM.pk [1]⟩
   have hd35 := of_decide_eq_false hb35
   refine fp HF 7 4 [(42, .bool false)] fun a HF => ?_
   refine s_d0 (s_cf HF (wp_skip (qa ?_)))
   refine fp HF 2 0 [(53, vI (p.getD k 0)), (52, .slice Ak k ck)] fun a HF => ?_
   refine fo HF 2 rfl rfl (s_el HF HM qar [(0, vI (p.getD k 0))] #[vI (p.getD k 0)] ?_)
   clear HF HM; intro a w54 g54 HF HM
   refine fo HF 3 rfl rfl (qo HF HM (i := 1) rfl qar rfl rfl rfl (news := [I64v (p.getD k 0)]) (HM.rdBlk (i := 0) (n := 1) (size := 1) rfl rfl) (by simp [Value.oneCell', I64v]) (by omega) (by omega) rfl (by decide) ?_)
   clear HF HM; intro a w55 A55 c55 HF HM hc55
   refine fp HF 1 4 [(7, .slice A55 (k + 1) c55)] fun a HF => ?_
   refine s_d0 ?_
   have hnA55 : k + 1 = k + 1 := rfl
   replace HM := HM.reRow (i := 1) (ys := (sumUp p q s (k + 1)).map I64v) rfl hnA55 (by rw [qa6, qtg (by omega)]; simp)
   rw [hnA55] at hc55
   replace HF := HF.sp 7 (.slice A55 (k + 1) c55) rfl (by rw [hnA55])
   replace HF := HF.sp 55 (.slice A55 (k + 1) c55) rfl (by rw [hnA55])
   refine qa ?_
   refine fp HF 2 0 [(23, vI (IntKind.i64.wrap ((k : Int) + 1)))] fun a HF => ?_
   replace HF := HF.sp 23 (vI (k + 1 : Nat)) rfl (qc (by omega) (by omega))
   refine fp HF 1 2 [(8, vI (k + 1 : Nat))] fun a HF => ?_
   refine s_d0 ?_
   exact ⟨_, (by omega), k + 1, A55, c55, by omega, hc55, rfl, HF.sub (by kernel_rfl), HM.pk [1]⟩
  have hd27 := of_decide_eq_false hb27
  omega
 have hd14 := of_decide_eq_false hb14
 refine fp HF 2 5 [(16, .slice A2 q.length c2), (15, vI k)] fun a HF => ?_
 refine s_fl HF 7 fun a HF => ?_
 refine fp HF 2 8 [(19, vI (IntKind.i64.wrap ((q.length : Int) + (s : Int))))] fun a HF => ?_
 replace HF := HF.sp 19 (vI (q.length + s : Nat)) rfl (qc (by omega) (by omega))
 refine fp HF 2 10 [(21, .bool (decide ((k : Int) < ((q.length + s : Nat) : Int))))] fun a HF => ?_
 refine s_d0 ?_
 rcases HF.tf 21 rfl with ⟨hb21, HF⟩ | ⟨hb21, HF⟩
 ·
  have hd21 := of_decide_eq_true hb21
  refine s_ct HF (wp_skip (wp_seq (wp_block (s_fs1 ?_))))
  refine fp HF 1 0 [(9, vI 0)] fun a HF => ?_
  refine s_d0 (wp_seq (s_fs1 ?_))
  refine fp HF 2 0 [(25, .slice A p.length c), (24, vI k)] fun a HF => ?_
  refine s_fl HF 2 fun a HF => ?_
  refine fp HF 1 3 [(27, .bool (decide ((k : Int) < (p.length : Int))))] fun a HF => ?_
  refine s_d0 ?_
  rcases HF.tf 27 rfl with ⟨hb27, HF⟩ | ⟨hb27, HF⟩
  ·
   have hd27 := of_decide_eq_true hb27
   omega
  have hd27 := of_decide_eq_false hb27
  refine s_cf HF (wp_skip (wp_seq (s_fs1 ?_)))
  refine fp HF 4 0 [(35, .bool (decide ((k : Int) ≥ (s : Int))))] fun a HF => ?_
  rcases HF.tf 35 rfl with ⟨hb35, HF⟩ | ⟨hb35, HF⟩
  ·
   have hd35 := of_decide_eq_true hb35
   refine fp HF 3 4 [(38, vI (IntKind.i64.wrap ((k : Int) - (s : Int))))] fun a HF => ?_
   replace HF := HF.sp 38 (vI (k - s : Nat)) rfl (qc (by omega) (by omega))
   refine fp HF 1 7 [(39, .slice A2 q.length c2)] fun a HF => ?_
   refine s_fl HF 8 fun a HF => ?_
   refine fp HF 2 9 [(42, .bool (decide (((k - s : Nat) : Int) < (q.length : Int))))] fun a HF => ?_
   refine s_d0 ?_
   rcases HF.tf 42 rfl with ⟨hb42, HF⟩ | ⟨hb42, HF⟩
   ·
    have hd42 := of_decide_eq_true hb42
    refine s_ct HF (qa ?_)
    refine fp HF 5 0 [(47, vI (IntKind.i64.wrap ((k : Int) - (s : Int)))), (44, .slice A2 q.length c2), (43, vI 0)] fun a HF => ?_
    replace HF := HF.sp 47 (vI (k - s : Nat)) rfl (qc (by omega) (by omega))
    obtain ⟨gA2, oA2, rfl, _⟩ := hr2.qj (Nat.lt_of_le_of_lt (Nat.zero_le _) (show k - s < q.length from by omega)) (by decide)
    refine s_fz HF HM 5 rfl (v := vP gA2 (oA2 + (k - s) * 1)) (Yl.ix gA2 oA2 (k - s) 1 rfl rfl rfl) fun a HF => ?_
    have hx216 := getD_lt h2 (k := (k - s)) (by first | omega | (simp; omega))
    refine s_fz HF HM 6 rfl (v := vI (q.getD (k - s) 0)) (Yl.o1 hr2 (k - s) 0 (by first | omega | (simp; omega)) rfl rfl) fun a HF => ?_
    refine fp HF 1 7 [(50, vI (IntKind.i64.wrap (0 + ((q.getD (k - s) 0) : Int))))] fun a HF => ?_
    replace HF := HF.sp 50 (vI (0 + (q.getD (k - s) 0) : Nat)) rfl (qc (by omega) (by omega))
    refine fp HF 1 8 [(51, vI (Int.tmod ((0 + (q.getD (k - s) 0) : Nat) : Int) 2))] fun a HF => ?_
    replace HF := HF.sp 51 (vI ((0 + (q.getD (k - s) 0)) % 2 : Nat)) rfl (qaj .i64 _ 2)
    refine fp HF 1 9 [(9, vI ((0 + (q.getD (k - s) 0)) % 2 : Nat))] fun a HF => ?_
    refine s_d0 (qa ?_)
    refine fp HF 2 0 [(53, vI ((0 + (q.getD (k - s) 0)) % 2 : Nat)), (52, .slice Ak k ck)] fun a HF => ?_
    refine fo HF 2 rfl rfl (s_el HF HM qar [(0, vI ((0 + (q.getD (k - s) 0)) % 2 : Nat))] #[vI ((0 + (q.getD (k - s) 0)) % 2 : Nat)] ?_)
    clear HF HM; intro a w54 g54 HF HM
    refine fo HF 3 rfl rfl (qo HF HM (i := 1) rfl qar rfl rfl rfl (news := [I64v ((0 + (q.getD (k - s) 0)) % 2)]) (HM.rdBlk (i := 0) (n := 1) (size := 1) rfl rfl) (by simp [Value.oneCell', I64v]) (by omega) (by omega) rfl (by decide) ?_)
    clear HF HM; intro a w55 A55 c55 HF HM hc55
    refine fp HF 1 4 [(7, .slice A55 (k + 1) c55)] fun a HF => ?_
    refine s_d0 ?_
    have hnA55 : k + 1 = k + 1 := rfl
    replace HM := HM.reRow (i := 1) (ys := (sumUp p q s (k + 1)).map I64v) rfl hnA55 (by rw [qa6, q1n (by omega) (by omega) (by omega)]; simp)
    rw [hnA55] at hc55
    replace HF := HF.sp 7 (.slice A55 (k + 1) c55) rfl (by rw [hnA55])
    replace HF := HF.sp 55 (.slice A55 (k + 1) c55) rfl (by rw [hnA55])
    refine qa ?_
    refine fp HF 2 0 [(23, vI (IntKind.i64.wrap ((k : Int) + 1)))] fun a HF => ?_
    replace HF := HF.sp 23 (vI (k + 1 : Nat)) rfl (qc (by omega) (by omega))
    refine fp HF 1 2 [(8, vI (k + 1 : Nat))] fun a HF => ?_
    refine s_d0 ?_
    replace HF := HF.to [(8, vI (k + 1 : Nat)), (55, .slice A55 (k + 1) c55), (7, .slice A55 (k + 1) c55), (9, vI ((0 + (q.getD (k - s) 0)) % 2 : Nat)), (42, .bool true), (27, .bool false), (21, .bool true), (6, .slice none 0 0), (0, .slice A p.length c), (1, .slice (some ⟨gA2, oA2, none⟩) q.length c2), (2, vI s)]
    exact ⟨_, (by omega), k + 1, A55, c55, by omega, hc55, rfl, HF.sub (by kernel_rfl), HM.pk [1]⟩
   have hd42 := of_decide_eq_false hb42
   refine s_cf HF (wp_skip (qa ?_))
   refine fp HF 2 0 [(53, vI 0), (52, .slice Ak k ck)] fun a HF => ?_
   refine fo HF 2 rfl rfl (s_el HF HM qar [(0, vI 0)] #[vI 0] ?_)
   clear HF HM; intro a w54 g54 HF HM
   refine fo HF 3 rfl rfl (qo HF HM (i := 1) rfl qar rfl rfl rfl (news := [I64v 0]) (HM.rdBlk (i := 0) (n := 1) (size := 1) rfl rfl) (by simp [Value.oneCell', I64v]) (by omega) (by omega) rfl (by decide) ?_)
   clear HF HM; intro a w55 A55 c55 HF HM hc55
   refine fp HF 1 4 [(7, .slice A55 (k + 1) c55)] fun a HF => ?_
   refine s_d0 ?_
   have hnA55 : k + 1 = k + 1 := rfl
   replace HM := HM.reRow (i := 1) (ys := (sumUp p q s (k + 1)).map I64v) rfl hnA55 (by rw [qa6, qxx (by omega) (by omega)]; simp)
   rw [hnA55] at hc55
   replace HF := HF.sp 7 (.slice A55 (k + 1) c55) rfl (by rw [hnA55])
   replace HF := HF.sp 55 (.slice A55 (k + 1) c55) rfl (by rw [hnA55])
   refine qa ?_
   refine fp HF 2 0 [(23, vI (IntKind.i64.wrap ((k : Int) + 1)))] fun a HF => ?_
   replace HF := HF.sp 23 (vI (k + 1 : Nat)) rfl (qc (by omega) (by omega))
   refine fp HF 1 2 [(8, vI (k + 1 : Nat))] fun a HF => ?_
   refine s_d0 ?_
   exact ⟨_, (by omega), k + 1, A55, c55, by omega, hc55, rfl, HF.sub (by kernel_rfl), HM.pk [1]⟩
  have hd35 := of_decide_eq_false hb35
  refine fp HF 7 4 [(42, .bool false)] fun a HF => ?_
  refine s_d0 (s_cf HF (wp_skip (qa ?_)))
  refine fp HF 2 0 [(53, vI 0), (52, .slice Ak k ck)] fun a HF => ?_
  refine fo HF 2 rfl rfl (s_el HF HM qar [(0, vI 0)] #[vI 0] ?_)
  clear HF HM; intro a w54 g54 HF HM
  refine fo HF 3 rfl rfl (qo HF HM (i := 1) rfl qar rfl rfl rfl (news := [I64v 0]) (HM.rdBlk (i := 0) (n := 1) (size := 1) rfl rfl) (by simp [Value.oneCell', I64v]) (by omega) (by omega) rfl (by decide) ?_)
  clear HF HM; intro a w55 A55 c55 HF HM hc55
  refine fp HF 1 4 [(7, .slice A55 (k + 1) c55)] fun a HF => ?_
  refine s_d0 ?_
  have hnA55 : k + 1 = k + 1 := rfl
  replace HM := HM.reRow (i := 1) (ys := (sumUp p q s (k + 1)).map I64v) rfl hnA55 (by rw [qa6, qxx (by omega) (by omega)]; simp)
  rw [hnA55] at hc55
  replace HF := HF.sp 7 (.slice A55 (k + 1) c55) rfl (by rw [hnA55])
  replace HF := HF.sp 55 (.slice A55 (k + 1) c55) rfl (by rw [hnA55])
  refine qa ?_
  refine fp HF 2 0 [(23, vI (IntKind.i64.wrap ((k : Int) + 1)))] fun a HF => ?_
  replace HF := HF.sp 23 (vI (k + 1 : Nat)) rfl (qc (by omega) (by omega))
  refine fp HF 1 2 [(8, vI (k + 1 : Nat))] fun a HF => ?_
  refine s_d0 ?_
  exact ⟨_, (by omega), k + 1, A55, c55, by omega, hc55, rfl, HF.sub (by kernel_rfl), HM.pk [1]⟩
 have hd21 := of_decide_eq_false hb21
 have hkM : k = (max p.length (q.length + s)) := by omega
 refine s_cf HF (wp_exit (s_fs1 ?_))
 refine fp HF 1 0 [(56, .slice Ak k ck)] fun a HF => ?_
 refine fo HF 1 rfl rfl (e_is HF HM [.slice Ak k ck] (.slice Ak ((trimL (sumUp p q s k)).length) ck) rfl rfl (qob _ _ _ (sumUp p q s k) _ (HM.rd (i := 0) rfl) (qk0 p q s k) (by omega) (by omega)) fun w57 hbw HM a HF => ?_)
 have htl57 := qd8 (sumUp p q s k)
 have hle57 : (trimL (sumUp p q s k)).length ≤ k := by rw [qk0 p q s k] at htl57; exact htl57
 replace HM := HM.cutRow (i := 0) rfl hle57 (qd9 (sumUp p q s k))
 refine fp HF 1 2 [(6, .slice Ak ((trimL (sumUp p q s k)).length) ck)] fun a HF => ?_
 refine s_d0 (wp_ret ?_)
 exact s_rt1 rfl HF rfl (by rw [← qtf p q s, ← hkM]; exact ⟨⟨_, _, rfl, HM.own (i := 0) rfl, by omega⟩, HM.below⟩)
theorem one01 : P01 [1] := by intro x hx; simp at hx; omega
theorem qv8 {w w' : World} {A X Xr : Option Addr} {c ca cr : Nat} {p q al xr : List Nat} {vq : Value} (hR : divR (p.length + 1) p q = al) (hX : (X = A ∧ ca = c ∧ al = p) ∨ (X = Xr ∧ ca = cr ∧ al = xr ∧ q.length ≤ p.length))
  (hO : w'.ownsRow w.heap.size 3 1 (.slice Xr xr.length cr) xr.length (xr.map I64v)) (hcr : xr.length ≤ cr) (hless : al.length < q.length) (hb : Below w.heap.size w w') :
  DivIs w A c p q (.returned (.tuple #[vq, .slice X al.length ca])) w' := by
 unfold DivIs
 rw [hR]
 refine ⟨⟨vq, X, ca, rfl, ?_, ?_⟩, hb⟩
 ·intro h
  rcases hX with ⟨h1, h2, _⟩ | ⟨_, _, _, h4⟩
  ·exact ⟨h1, h2⟩
  ·omega
 ·intro h
  rcases hX with ⟨_, _, h3⟩ | ⟨rfl, rfl, rfl, _⟩
  ·subst h3; omega
  ·exact ⟨hO, hcr⟩
theorem qh9 (A A2 : Option Addr) (c c2 : Nat) (p q : List Nat) (w : World) (h1 : P01 p) (h2 : P01 q) (t1 : Tr p) (t2 : Tr q) (h0 : 0 < q.length) (hr : Rd w w.heap.size 1 A p.length (p.map I64v)) (hr2 : Rd w w.heap.size 1 A2 q.length (q.map I64v)) (hp : p.length ≤ 100000) (hq : q.length ≤ 100000) :
    Calls Tryz.prog 129 #[.slice A p.length c, .slice A2 q.length c2] w (DivIs w A c p q) := by
 refine s_ce Tryz.func129 [.slice A p.length c, .slice A2 q.length c2] [(0, .slice A p.length c), (1, .slice A2 q.length c2)] fun a HF => ?_
 have HM := Mem.start w
 refine s_fs1 ?_
 refine fp HF 2 0 [(5, .slice none 0 0), (4, .slice none 0 0)] fun a HF => ?_
 refine s_d0 (s_fs1 ?_)
 refine fp HF 1 0 [(6, .slice none 0 0)] fun a HF => ?_
 refine s_d0 ?_
 replace HM := (HM.nil 3 1).nil 3 1
 refine wp_seq (wp_block ?_)
 refine qi (fun mS aS wS => ∃ (al : List Nat) (X : Option Addr) (ca : Nat) (Xr : Option Addr) (xr : List Nat) (cr : Nat) (ql : List Nat) (Aq : Option Addr) (cq : Nat), (P01 al) ∧ (Tr al) ∧ (al.length ≤ p.length) ∧ (divR (al.length + 1) al q = divR (p.length + 1) p q) ∧ ((X = A ∧ ca = c ∧ al = p) ∨ (X = Xr ∧ ca = cr ∧ al = xr ∧ q.length ≤ p.length)) ∧ (P01 ql) ∧ (ql.length ≤ p.length + 1) ∧ (xr.length ≤ cr) ∧ mS = al.length ∧ Fr aS 28 [] [(6, .slice Aq ql.length cq), (5, .slice none 0 0), (4, .slice none 0 0), (0, .slice X al.length ca), (1, .slice A2 q.length c2)] ∧ Mem w wS [.row (.slice Aq ql.length cq) ql.length (ql.map I64v) 3 1, .row (.slice Xr xr.length cr) xr.length (xr.map I64v) 3 1]) (m := p.length) ⟨p, A, c, none, [], 0, [], none, 0, h1, t1, Nat.le_refl _, rfl, .inl ⟨rfl, rfl, rfl⟩, (by intro x hx; cases hx), Nat.zero_le _, Nat.le_refl _, rfl, HF.sub (by kernel_rfl), HM.pk [0, 1]⟩ ?_
 clear HF HM; rintro mS a w_ ⟨al, X, ca, Xr, xr, cr, ql, Aq, cq, ha1, hat, hal, hdv, hX, hq1, hql, hcr, rfl, HF, HM⟩
 refine wp_seq (s_fs1 ?_)
 refine fp HF 1 0 [(8, .slice X al.length ca)] fun a HF => ?_
 refine s_fl HF 1 fun a HF => ?_
 refine fp HF 1 2 [(10, .slice A2 q.length c2)] fun a HF => ?_
 refine s_fl HF 3 fun a HF => ?_
 refine fp HF 1 4 [(12, .bool (decide ((al.length : Int) ≥ (q.length : Int))))] fun a HF => ?_
 refine s_d0 ?_
 rcases HF.tf 12 rfl with ⟨hb12, HF⟩ | ⟨hb12, HF⟩
 ·
  have hd12 := of_decide_eq_true hb12
  have hless := qfp ha1 h2 hat t2 h0 (by omega)
  refine s_ct HF (wp_skip (wp_block (s_fs1 ?_)))
  refine fp HF 1 0 [(13, .slice X al.length ca)] fun a HF => ?_
  refine s_fl HF 1 fun a HF => ?_
  refine fp HF 1 2 [(15, .slice A2 q.length c2)] fun a HF => ?_
  refine s_fl HF 3 fun a HF => ?_
  refine fp HF 1 4 [(17, vI (IntKind.i64.wrap ((al.length : Int) - (q.length : Int))))] fun a HF => ?_
  replace HF := HF.sp 17 (vI (al.length - q.length : Nat)) rfl (qc (by omega) (by omega))
  refine fp HF 1 5 [(7, vI (al.length - q.length : Nat))] fun a HF => ?_
  refine s_d0 (s_fs1 ?_)
  refine fp HF 1 0 [(18, .slice Aq ql.length cq)] fun a HF => ?_
  refine fo HF 1 rfl rfl (s_el HF HM qar [(0, vI 1)] #[vI 1] ?_)
  clear HF HM; intro a w19 g19 HF HM
  refine fp HF 1 2 [(20, vI (al.length - q.length : Nat))] fun a HF => ?_
  refine fo HF 3 rfl rfl ?_
  refine s_ek HF HM [.slice Aq ql.length cq, vS g19 1 1, vI (al.length - q.length : Nat)] (qh8 _ _ _ _ ql [1] (al.length - q.length) _ hq1 one01 (HM.rd (i := 1) rfl) (HM.rdBlk (i := 0) (n := 1) (size := 1) rfl rfl) (by omega) (by simp only [List.length_singleton]; omega)) fun A21 c21 w21 hc21 HM a HF => ?_
  refine fp HF 1 4 [(6, .slice A21 ((sumL ql [1] (al.length - q.length)).length) c21)] fun a HF => ?_
  refine s_d0 (qa ?_)
  refine fp HF 3 0 [(24, vI (al.length - q.length : Nat)), (23, .slice A2 q.length c2), (22, .slice X al.length ca)] fun a HF => ?_
  refine fo HF 3 rfl rfl ?_
  refine s_ek HF HM [.slice X al.length ca, .slice A2 q.length c2, vI (al.length - q.length : Nat)] (qh8 _ _ _ _ al q (al.length - q.length) _ ha1 h2 (by rcases hX with ⟨rfl, rfl, rfl⟩ | ⟨rfl, rfl, rfl, _⟩ <;> first | exact HM.old hr | exact HM.rd (i := 3) rfl) (HM.old hr2) (by omega) (by omega)) fun A25 c25 w25 hc25 HM a HF => ?_
  refine fp HF 1 4 [(0, .slice A25 ((sumL al q (al.length - q.length)).length) c25)] fun a HF => ?_
  refine s_d0 ?_
  exact ⟨_, hless, (sumL al q (al.length - q.length)), A25, c25, A25, (sumL al q (al.length - q.length)), c25, (sumL ql [1] (al.length - q.length)), A21, c21, sum01 ha1 _, sumTr _ _ _, by omega, qn3 h2 t2 h0 ha1 hat (by omega) hdv, .inr ⟨rfl, rfl, rfl, by omega⟩, sum01 hq1 _, by have := qzr ql [1] (al.length - q.length); simp only [List.length_singleton] at this; omega, hc25, rfl, HF.sub (by kernel_rfl), HM.pk [1, 0]⟩
 have hd12 := of_decide_eq_false hb12
 refine s_cf HF (wp_exit (s_fs1 ?_))
 refine fp HF 4 0 [(5, .slice X al.length ca), (4, .slice Aq ql.length cq)] fun a HF => ?_
 refine s_d0 (wp_ret ?_)
 have hR : divR (p.length + 1) p q = al := by rw [← hdv, qn4 (by omega)]
 exact s_rt2 rfl HF rfl rfl (qv8 hR hX (HM.own (i := 1) rfl) hcr (by omega) HM.below)
theorem qod (A : Option Addr) (c y : Nat) (hy : y < 256) (w : World) (hr : Rd w w.heap.size 1 A 1 ([y].map B8)) :
    Calls Tryz.prog 130 #[.slice A 1 c] w (PolIs w (bitsOf y)) := by
 refine s_ce Tryz.func130 [.slice A 1 c] [(0, .slice A 1 c)] fun a HF => ?_
 have HM := Mem.start w
 refine s_fs1 ?_
 refine fp HF 1 0 [(2, .slice none 0 0)] fun a HF => ?_
 refine s_d0 (s_fs1 ?_)
 refine fp HF 1 0 [(6, .slice A 1 c)] fun a HF => ?_
 refine s_fl HF 1 fun a HF => ?_
 refine fp HF 2 2 [(3, vI 8)] fun a HF => ?_
 refine s_d0 (s_fs1 ?_)
 refine fp HF 2 0 [(10, vI 40)] fun a HF => ?_
 refine fo HF 2 rfl rfl ?_
 refine qx5 HF HM (m := 40) rfl qar rfl rfl (by omega) (by omega) rfl (by decide) ?_
 clear HF HM; intro a w11 g11 HF HM
 refine fp HF 1 3 [(4, vS g11 40 40)] fun a HF => ?_
 refine s_d0 ?_
 have hnsomeg110none : 40 = 40 := rfl
 replace HM := HM.reRow (i := 0) (ys := (qao y 0).map I64v) rfl hnsomeg110none (by rw [qmg]; kernel_rfl)
 replace HF := HF.sp 4 (vS g11 40 40) rfl (by rw [hnsomeg110none])
 replace HF := HF.sp 11 (vS g11 40 40) rfl (by rw [hnsomeg110none])
 refine wp_seq (s_fs1 ?_)
 refine fp HF 1 0 [(5, vI 0)] fun a HF => ?_
 refine s_d0 (wp_block ?_)
 refine qi (fun mS aS wS => ∃ (k : Nat), (k ≤ 8) ∧ mS = 8 - k ∧ Fr aS 52 [] [(5, vI k), (11, vS g11 40 40), (4, vS g11 40 40), (3, vI 8), (2, .slice none 0 0), (0, .slice A 1 c)] ∧ Mem w wS [.row (vS g11 40 40) 40 ((qao y k).map I64v) 3 1]) (m := 8 - 0) ⟨0, by omega, rfl, HF.sub (by kernel_rfl), HM.pk [0]⟩ ?_
 clear HF HM; rintro mS a w_ ⟨k, hk, rfl, HF, HM⟩
 refine wp_seq (s_fs1 ?_)
 refine fp HF 3 0 [(14, .bool (decide ((k : Int) < (8 : Int))))] fun a HF => ?_
 refine s_d0 ?_
 rcases HF.tf 14 rfl with ⟨hb14, HF⟩ | ⟨hb14, HF⟩
 ·
  have hd14 := of_decide_eq_true hb14
  have hk8 : k < 8 := by omega
  refine s_ct HF (wp_skip (wp_seq (wp_block (qa ?_))))
  refine fp HF 6 0 [(22, vI (IntKind.i64.wrap (39 - (k : Int)))), (17, vS g11 40 40)] fun a HF => ?_
  replace HF := HF.sp 22 (vI (39 - k : Nat)) rfl (qc (by omega) (by omega))
  refine fp HF 3 6 [(25, vI (IntKind.i64.wrap (Int.tdiv (k : Int) 8))), (23, .slice A 1 c)] fun a HF => ?_
  replace HF := HF.sp 25 (vI (k / 8 : Nat)) rfl (qdp .i64 8 (by show _ ≤ 9223372036854775807; omega))
  obtain ⟨gA, oA, rfl, _⟩ := hr.qj (Nat.lt_of_le_of_lt (Nat.zero_le _) (show k / 8 < 1 from by omega)) (by decide)
  refine s_fz HF HM 9 rfl (v := vP gA (oA + (k / 8) * 1)) (Yl.ix gA oA (k / 8) 1 rfl rfl rfl) fun a HF => ?_
  refine s_fz HF HM 10 rfl (v := vB ([y].getD (k / 8) 0)) (Yl.o1 hr (k / 8) 0 (by first | omega | (simp; omega)) rfl rfl) fun a HF => ?_
  replace HF := HF.sp 27 (vB y) rfl (by rw [show k / 8 = 0 by omega]; rfl)
  refine fp HF 2 11 [(29, vI (Int.tmod (k : Int) 8))] fun a HF => ?_
  replace HF := HF.sp 29 (vI (k % 8 : Nat)) rfl (qaj .i64 _ 8)
  refine s_fz HF HM 13 rfl (v := vB (y / 2 ^ (k % 8) : Nat)) (Yl.shrN (m := y) (n := (k % 8)) rfl rfl rfl (by show _ ≤ 8; omega)) fun a HF => ?_
  refine fp HF 1 14 [(31, vB (Int.tmod ((y / 2 ^ (k % 8) : Nat) : Int) 2))] fun a HF => ?_
  replace HF := HF.sp 31 (vB ((y / 2 ^ (k % 8)) % 2 : Nat)) rfl (qaj .u8 _ 2)
  refine fp HF 1 15 [(32, vI (IntKind.i64.wrap (((y / 2 ^ (k % 8)) % 2 : Nat) : Int)))] fun a HF => ?_
  replace HF := HF.sp 32 (vI ((y / 2 ^ (k % 8)) % 2 : Nat)) rfl (qc rfl (by omega))
  refine s_fz HF HM 16 rfl (v := vP g11 ((39 - k) * 1)) (Yl.ix0 g11 (39 - k) 1 rfl rfl rfl) fun a HF => ?_
  refine fo HF 17 rfl rfl ?_
  refine qa5 HF HM (i := 0) rfl rfl rfl rfl (by kernel_rfl) rfl rfl (by rw [List.length_map, qai]; omega) ?_
  clear HM; intro w6_17 HM
  replace HM := HM.asRow (i := 0) (ys := (qao y (k + 1)).map I64v) rfl ((qf2 I64v (qao y k) (39 - k) (y / 2 ^ (k % 8) % 2) (by rw [qai]; omega)).trans (by rw [show k % 8 = k by omega, qmh (by omega)]))
  refine s_d0 (qa ?_)
  refine fp HF 2 0 [(16, vI (IntKind.i64.wrap ((k : Int) + 1)))] fun a HF => ?_
  replace HF := HF.sp 16 (vI (k + 1 : Nat)) rfl (qc (by omega) (by omega))
  refine fp HF 1 2 [(5, vI (k + 1 : Nat))] fun a HF => ?_
  refine s_d0 ?_
  exact ⟨_, (by omega), k + 1, by omega, rfl, HF.sub (by kernel_rfl), HM.pk [0]⟩
 have hd14 := of_decide_eq_false hb14
 obtain rfl : k = 8 := by omega
 refine s_cf HF (wp_exit (wp_seq (wp_block ?_)))
 refine qi (fun mS aS wS => ∃ (j : Nat), (j ≤ 40) ∧ (trimL ((qao y 8).take j) = trimL (qao y 8)) ∧ mS = 0 + j ∧ Fr aS 52 [] [(14, .bool false), (5, vI 8), (11, vS g11 40 40), (4, vS g11 j 40), (3, vI 8), (2, .slice none 0 0), (0, .slice A 1 c)] ∧ Mem w wS [.row (vS g11 40 40) 40 ((qao y 8).map I64v) 3 1]) (m := 0 + 40) ⟨40, by omega, by rw [List.take_of_length_le (by rw [qai]; omega)], rfl, HF.sub (by kernel_rfl), HM.pk [0]⟩ ?_
 clear HF HM; rintro mS a w_ ⟨j, hj, ht, rfl, HF, HM⟩
 have hbl := qai y 8
 refine wp_seq (s_fs1 ?_)
 refine fp HF 1 0 [(34, vS g11 j 40)] fun a HF => ?_
 refine s_fl HF 1 fun a HF => ?_
 refine fp HF 2 2 [(37, .bool (decide ((j : Int) > (0 : Int))))] fun a HF => ?_
 rcases HF.tf 37 rfl with ⟨hb37, HF⟩ | ⟨hb37, HF⟩
 ·
  have hd37 := of_decide_eq_true hb37
  have hj0 : 0 < j := by omega
  refine fp HF 2 4 [(39, vS g11 j 40), (38, vS g11 j 40)] fun a HF => ?_
  refine s_fl HF 6 fun a HF => ?_
  refine fp HF 1 7 [(41, vI (IntKind.i64.wrap ((j : Int) - 1)))] fun a HF => ?_
  replace HF := HF.sp 41 (vI (j - 1 : Nat)) rfl (qc (by omega) (by omega))
  refine s_fz HF HM 8 rfl (v := vP g11 ((j - 1) * 1)) (Yl.ix0 g11 (j - 1) 1 rfl rfl rfl) fun a HF => ?_
  refine s_fz HF HM 9 rfl (v := vI ((qao y 8).getD (j - 1) 0)) (Yl.r1 0 (j - 1) 0 (by first | omega | (simp; omega)) rfl rfl rfl) fun a HF => ?_
  refine fp HF 2 10 [(45, .bool ((((qao y 8).getD (j - 1) 0) : Int) == (0 : Int)))] fun a HF => ?_
  refine s_d0 ?_
  rcases HF.tf 45 rfl with ⟨hb45, HF⟩ | ⟨hb45, HF⟩
  ·
   have hd45 := eq_of_beq hb45
   refine s_ct HF (wp_skip (wp_block (qa ?_)))
   refine fp HF 2 0 [(47, vS g11 j 40), (46, vS g11 j 40)] fun a HF => ?_
   refine s_fl HF 2 fun a HF => ?_
   refine fp HF 1 3 [(49, vI (IntKind.i64.wrap ((j : Int) - 1)))] fun a HF => ?_
   replace HF := HF.sp 49 (vI (j - 1 : Nat)) rfl (qc (by omega) (by omega))
   refine s_fz HF HM 4 rfl (v := vS g11 (j - 1) 40) (Yl.qap qar (j := j - 1) rfl rfl rfl (by omega)) fun a HF => ?_
   refine fp HF 1 5 [(4, vS g11 (j - 1) 40)] fun a HF => ?_
   refine s_d0 ?_
   exact ⟨_, (by omega), (j - 1), by omega, qkz (by omega) (by omega) (by omega) ht, rfl, HF.sub (by kernel_rfl), HM.pk [0]⟩
  have hd45 := ne_of_beq_false hb45
  refine s_cf HF (wp_exit (s_fs1 ?_))
  refine fp HF 2 0 [(2, vS g11 j 40)] fun a HF => ?_
  refine s_d0 (wp_ret ?_)
  have hjt := qd7 (l := qao y 8) (k := j) (by omega) (fun _ => by omega) ht
  have hjl : (bitsOf y).length = j := by rw [← qh7, hjt, List.length_take]; omega
  have HM2 := HM.cutRow (i := 0) (m := (bitsOf y).length) (ys := (bitsOf y).map I64v) rfl (by omega) (by rw [Nat.mul_one, ← List.map_take, hjl, ← hjt]; rfl)
  exact s_rt1 rfl HF rfl (⟨⟨some ⟨g11, 0, none⟩, 40, by rw [hjl], HM2.own (i := 0) rfl, by omega⟩, HM.below⟩)
 have hd37 := of_decide_eq_false hb37
 refine fp HF 8 4 [(45, .bool false)] fun a HF => ?_
 refine s_d0 (s_cf HF (wp_exit (s_fs1 ?_)))
 refine fp HF 2 0 [(2, vS g11 j 40)] fun a HF => ?_
 refine s_d0 (wp_ret ?_)
 have hjt := qd7 (l := qao y 8) (k := j) (by omega) (fun _ => by omega) ht
 have hjl : (bitsOf y).length = j := by rw [← qh7, hjt, List.length_take]; omega
 have HM2 := HM.cutRow (i := 0) (m := (bitsOf y).length) (ys := (bitsOf y).map I64v) rfl (by omega) (by rw [Nat.mul_one, ← List.map_take, hjl, ← hjt]; rfl)
 exact s_rt1 rfl HF rfl (⟨⟨some ⟨g11, 0, none⟩, 40, by rw [hjl], HM2.own (i := 0) rfl, by omega⟩, HM.below⟩)
theorem qk3 (w : World) : Calls Tryz.prog 131 #[.int .u64 4374732215] w (PolIs w genP) := qtj 4374732215 (by decide) w
theorem genlen : 0 < genP.length := by rw [qdf]; decide
theorem qmi (A : Option Addr) (c : Nat) (w : World) (hr : Rd w w.heap.size 1 A 1 ([0].map B8)) :
    Calls Tryz.prog 103 #[.slice A 1 c] w (Is w (.int .u32 (crcT 0 : Int))) := by
 refine s_ce Tryz.func103 [.slice A 1 c] [(0, .slice A 1 c)] fun a HF => ?_
 have HM := Mem.start w
 refine s_fs1 ?_
 refine fp HF 1 0 [(2, vW 0)] fun a HF => ?_
 refine s_d0 (s_fs1 ?_)
 refine fp HF 1 0 [(8, .slice A 1 c)] fun a HF => ?_
 refine fo HF 1 rfl rfl ?_
 refine s_ek HF HM [.slice A 1 c] (qod _ _ 0 (by omega) _ (HM.old hr)) fun A9 c9 w9 hc9 HM a HF => ?_
 refine fo HF 2 rfl rfl ?_
 refine s_ek HF HM [vQ 4374732215] (qk3 _) fun A10 c10 w10 hc10 HM a HF => ?_
 refine fo HF 3 rfl rfl ?_
 refine e_cl HF [.slice A9 ((bitsOf 0).length) c9, .slice A10 ((genP).length) c10] rfl rfl (qh9 _ _ _ _ (bitsOf 0) genP _ (qn6 _) (qn5 _) (qn8 _) (qn7 _) genlen (HM.rd (i := 1) rfl) (HM.rd (i := 0) rfl) (by have := qi7 0; omega) (by rw [qdf]; decide)) ?_
 rintro _ w11 ⟨⟨vq, X, cX, rfl, hd1, hd2⟩, hbw⟩
 refine ⟨_, rfl, ?_⟩
 replace HM := HM.call hbw
 clear HF; intro a HF
 refine fp HF 5 4 [(4, .slice X ((linR 0).length) cX)] fun a HF => ?_
 refine s_d0 ?_
 have hl32 := qn9 0
 have hl0 : (linR 0).length = 0 := by rw [qti]; rfl
 refine s_fs1 ?_
 refine fp HF 1 0 [(5, vW 0)] fun a HF => ?_
 refine s_d0 (wp_seq (s_fs1 ?_))
 refine fp HF 1 0 [(6, vI 0)] fun a HF => ?_
 refine s_d0 (wp_block ?_)
 replace HM := HM.pk (fs' := []) []
 refine qi (fun mS aS wS => ∃ (k : Nat), (k ≤ (linR 0).length) ∧ mS = (linR 0).length - k ∧ Fr aS 31 [] [(6, vI k), (5, vW (remUp (linR 0) k)), (4, .slice X ((linR 0).length) cX), (2, vW 0)] ∧ Mem w wS []) (m := (linR 0).length - 0) ⟨0, Nat.zero_le _, rfl, HF.sub (by kernel_rfl), HM.pk []⟩ ?_
 clear HF HM; rintro mS a w_ ⟨k, hk, rfl, HF, HM⟩
 refine wp_seq (s_fs1 ?_)
 refine fp HF 2 0 [(15, .slice X ((linR 0).length) cX), (14, vI k)] fun a HF => ?_
 refine s_fl HF 2 fun a HF => ?_
 refine fp HF 1 3 [(17, .bool (decide ((k : Int) < (((linR 0).length : Nat) : Int))))] fun a HF => ?_
 refine s_d0 ?_
 rcases HF.tf 17 rfl with ⟨hb17, HF⟩ | ⟨hb17, HF⟩
 ·
  have hd17 := of_decide_eq_true hb17
  omega
 have hd17 := of_decide_eq_false hb17
 refine s_cf HF (wp_exit (s_fs1 ?_))
 refine fp HF 2 0 [(2, vW (remUp (linR 0) k))] fun a HF => ?_
 refine s_d0 (wp_ret ?_)
 exact s_rt1 rfl HF rfl (⟨by rw [show k = (linR 0).length by omega, qk1, qth, qjw 0 (by omega)], HM.below⟩)
theorem qpu (A : Option Addr) (c y : Nat) (hy : y < 256) (hy0 : y ≠ 0) (w : World) (hr : Rd w w.heap.size 1 A 1 ([y].map B8)) :
    Calls Tryz.prog 103 #[.slice A 1 c] w (Is w (.int .u32 (crcT y : Int))) := by
 refine s_ce Tryz.func103 [.slice A 1 c] [(0, .slice A 1 c)] fun a HF => ?_
 have HM := Mem.start w
 refine s_fs1 ?_
 refine fp HF 1 0 [(2, vW 0)] fun a HF => ?_
 refine s_d0 (s_fs1 ?_)
 refine fp HF 1 0 [(8, .slice A 1 c)] fun a HF => ?_
 refine fo HF 1 rfl rfl ?_
 refine s_ek HF HM [.slice A 1 c] (qod _ _ y (by omega) _ (HM.old hr)) fun A9 c9 w9 hc9 HM a HF => ?_
 refine fo HF 2 rfl rfl ?_
 refine s_ek HF HM [vQ 4374732215] (qk3 _) fun A10 c10 w10 hc10 HM a HF => ?_
 refine fo HF 3 rfl rfl ?_
 refine e_cl HF [.slice A9 ((bitsOf y).length) c9, .slice A10 ((genP).length) c10] rfl rfl (qh9 _ _ _ _ (bitsOf y) genP _ (qn6 _) (qn5 _) (qn8 _) (qn7 _) genlen (HM.rd (i := 1) rfl) (HM.rd (i := 0) rfl) (by have := qi7 y; omega) (by rw [qdf]; decide)) ?_
 rintro _ w11 ⟨⟨vq, X, cX, rfl, hd1, hd2⟩, hbw⟩
 obtain ⟨ho, hcX⟩ := hd2 (by rw [qdf]; exact qv7 y hy hy0)
 refine ⟨_, rfl, ?_⟩
 replace HM := HM.callRow hbw ho
 clear HF; intro a HF
 refine fp HF 5 4 [(4, .slice X ((linR y).length) cX)] fun a HF => ?_
 refine s_d0 ?_
 have hl32 := qn9 y
 refine s_fs1 ?_
 refine fp HF 1 0 [(5, vW 0)] fun a HF => ?_
 refine s_d0 (wp_seq (s_fs1 ?_))
 refine fp HF 1 0 [(6, vI 0)] fun a HF => ?_
 refine s_d0 (wp_block ?_)
 replace HM := HM.pk (fs' := [.row (.slice X ((linR y).length) cX) ((linR y).length) ((linR y).map I64v) 3 1]) [0]
 refine qi (fun mS aS wS => ∃ (k : Nat), (k ≤ (linR y).length) ∧ mS = (linR y).length - k ∧ Fr aS 31 [] [(6, vI k), (5, vW (remUp (linR y) k)), (4, .slice X ((linR y).length) cX), (2, vW 0)] ∧ Mem w wS [.row (.slice X ((linR y).length) cX) ((linR y).length) ((linR y).map I64v) 3 1]) (m := (linR y).length - 0) ⟨0, Nat.zero_le _, rfl, HF.sub (by kernel_rfl), HM.pk [0]⟩ ?_
 clear HF HM; rintro mS a w_ ⟨k, hk, rfl, HF, HM⟩
 refine wp_seq (s_fs1 ?_)
 refine fp HF 2 0 [(15, .slice X ((linR y).length) cX), (14, vI k)] fun a HF => ?_
 refine s_fl HF 2 fun a HF => ?_
 refine fp HF 1 3 [(17, .bool (decide ((k : Int) < (((linR y).length : Nat) : Int))))] fun a HF => ?_
 refine s_d0 ?_
 rcases HF.tf 17 rfl with ⟨hb17, HF⟩ | ⟨hb17, HF⟩
 ·
  have hd17 := of_decide_eq_true hb17
  have hk31 : k < 32 := by omega
  refine s_ct HF (wp_skip (wp_seq (wp_block (s_fs1 ?_))))
  refine fp HF 2 0 [(21, vI k), (20, .slice X ((linR y).length) cX)] fun a HF => ?_
  obtain ⟨gX, rfl⟩ := q8 (HM.own (i := 0) rfl) (Nat.lt_of_le_of_lt (Nat.zero_le _) (show k < (linR y).length from by omega))
  refine s_fz HF HM 2 rfl (v := vP gX (k * 1)) (Yl.ix0 gX k 1 rfl rfl rfl) fun a HF => ?_
  refine s_fz HF HM 3 rfl (v := vI ((linR y).getD k 0)) (Yl.r1 0 k 0 (by first | omega | (simp; omega)) rfl rfl rfl) fun a HF => ?_
  refine fp HF 1 4 [(24, .bool ((((linR y).getD k 0) : Int) == (1 : Int)))] fun a HF => ?_
  refine s_d0 ?_
  rcases HF.tf 24 rfl with ⟨hb24, HF⟩ | ⟨hb24, HF⟩
  ·
   have hd24 := eq_of_beq hb24
   have hrs := qzt (linR y) hk31
   refine s_ct HF (qa ?_)
   refine fp HF 3 0 [(27, vI (IntKind.i64.wrap (31 - (k : Int)))), (25, vW (remUp (linR y) k))] fun a HF => ?_
   replace HF := HF.sp 27 (vI (31 - k : Nat)) rfl (qc (by omega) (by omega))
   refine s_fz HF HM 3 rfl (v := vW (1 * 2 ^ (31 - k) : Nat)) (Yl.shlN (m := 1) (n := (31 - k)) rfl rfl rfl (by show _ ≤ 32; omega) (pow31 k)) fun a HF => ?_
   refine fp HF 1 4 [(29, vW (IntKind.u32.wrap ((remUp (linR y) k : Int) + ((1 * 2 ^ (31 - k) : Nat) : Int))))] fun a HF => ?_
   replace HF := HF.sp 29 (vW (remUp (linR y) (k + 1))) rfl (qas (by rw [qcz, if_pos (by omega)]; omega) (by rw [qcz, if_pos (by omega)]; omega))
   refine fp HF 1 5 [(5, vW (remUp (linR y) (k + 1)))] fun a HF => ?_
   refine s_d0 (qa ?_)
   refine fp HF 2 0 [(19, vI (IntKind.i64.wrap ((k : Int) + 1)))] fun a HF => ?_
   replace HF := HF.sp 19 (vI (k + 1 : Nat)) rfl (qc (by omega) (by omega))
   refine fp HF 1 2 [(6, vI (k + 1 : Nat))] fun a HF => ?_
   refine s_d0 ?_
   exact ⟨_, (by omega), k + 1, by omega, rfl, HF.sub (by kernel_rfl), HM.pk [0]⟩
  have hd24 := ne_of_beq_false hb24
  replace HF := HF.sp 5 (.int .u32 (remUp (linR y) (k + 1) : Int)) rfl (by rw [qcz, if_neg (by omega), Nat.add_zero])
  refine s_cf HF (wp_skip (qa ?_))
  refine fp HF 2 0 [(19, vI (IntKind.i64.wrap ((k : Int) + 1)))] fun a HF => ?_
  replace HF := HF.sp 19 (vI (k + 1 : Nat)) rfl (qc (by omega) (by omega))
  refine fp HF 1 2 [(6, vI (k + 1 : Nat))] fun a HF => ?_
  refine s_d0 ?_
  exact ⟨_, (by omega), k + 1, by omega, rfl, HF.sub (by kernel_rfl), HM.pk [0]⟩
 have hd17 := of_decide_eq_false hb17
 refine s_cf HF (wp_exit (s_fs1 ?_))
 refine fp HF 2 0 [(2, vW (remUp (linR y) k))] fun a HF => ?_
 refine s_d0 (wp_ret ?_)
 exact s_rt1 rfl HF rfl (⟨by rw [show k = (linR y).length by omega, qk1, qth, qjw y (by omega)], HM.below⟩)
theorem qpv (A : Option Addr) (c y : Nat) (hy : y < 256) (w : World) (hr : Rd w w.heap.size 1 A 1 ([y].map B8)) : Calls Tryz.prog 103 #[.slice A 1 c] w (Is w (.int .u32 (crcT y : Int))) := by
 by_cases h : y = 0
 ·subst h; exact qmi A c w hr
 ·exact qpu A c y hy h w hr
theorem qtk (c : Nat) (hc : c < 4294967296) (A : Option Addr) (n cp : Nat) (l : List Nat) (w : World) (hr : Rd w w.heap.size 1 A n (l.map B8)) (hln : l.length = n) (hn : n ≤ 1000000000) (hl : ∀ b ∈ l, b < 256) :
    Calls Tryz.prog 77 #[.int .u32 (c : Int), .slice A n cp] w (Is w (.int .u32 ((4294967295 - qp (4294967295 - c) l : Nat) : Int))) := by
 refine s_ce Tryz.func77 [vW c, .slice A n cp] [(0, vW c), (1, .slice A n cp)] fun a HF => ?_
 have HM := Mem.start w
 refine s_fs1 ?_
 refine fp HF 1 0 [(4, vW 0)] fun a HF => ?_
 refine s_d0 (s_fs1 ?_)
 refine fp HF 2 0 [(7, vW (IntKind.u32.wrap (4294967295 - (c : Int))))] fun a HF => ?_
 replace HF := HF.sp 7 (vW (4294967295 - c : Nat)) rfl (qas (by omega) (by omega))
 refine fp HF 1 2 [(0, vW (4294967295 - c : Nat))] fun a HF => ?_
 refine s_d0 (wp_seq (s_fs1 ?_))
 refine fp HF 1 0 [(5, vI 0)] fun a HF => ?_
 refine s_d0 (wp_block ?_)
 refine qi (fun mS aS wS => ∃ (k : Nat), (k ≤ n) ∧ mS = n - k ∧ Fr aS 29 [] [(5, vI k), (0, vW (qp (4294967295 - c) (l.take k))), (4, vW 0), (1, .slice A n cp)] ∧ Mem w wS []) (m := n - 0) ⟨0, Nat.zero_le _, rfl, HF.sub (by kernel_rfl), HM.pk []⟩ ?_
 clear HF HM; rintro mS a w_ ⟨k, hk, rfl, HF, HM⟩
 have hcr := qci (l.take k) (c := 4294967295 - c) (by omega) (qep hl k)
 refine wp_seq (s_fs1 ?_)
 refine fp HF 2 0 [(9, .slice A n cp), (8, vI k)] fun a HF => ?_
 refine s_fl HF 2 fun a HF => ?_
 refine fp HF 1 3 [(11, .bool (decide ((k : Int) < (n : Int))))] fun a HF => ?_
 refine s_d0 ?_
 rcases HF.tf 11 rfl with ⟨hb11, HF⟩ | ⟨hb11, HF⟩
 ·
  have hd11 := of_decide_eq_true hb11
  have hk11 : k < n := by omega
  have hxk := getD_lt hl (k := k) (by omega)
  have hy8 : (qp (4294967295 - c) (l.take k) % 256 ^^^ l.getD k 0) < 256 := Nat.xor_lt_two_pow (n := 8) (by omega) (by omega)
  refine s_ct HF (wp_skip (wp_seq (wp_block (qa ?_))))
  refine fp HF 2 0 [(15, vW (IntKind.u32.wrap (Int.tdiv (qp (4294967295 - c) (l.take k) : Int) 256)))] fun a HF => ?_
  replace HF := HF.sp 15 (vW ((qp (4294967295 - c) (l.take k)) / 256 : Nat)) rfl (qdp .u32 256 (by show _ ≤ 4294967295; omega))
  refine fp HF 2 2 [(17, vW (Int.tmod (qp (4294967295 - c) (l.take k) : Int) 256))] fun a HF => ?_
  replace HF := HF.sp 17 (vW ((qp (4294967295 - c) (l.take k)) % 256 : Nat)) rfl (qaj .u32 _ 256)
  refine fp HF 1 4 [(18, vB (IntKind.u8.wrap (((qp (4294967295 - c) (l.take k)) % 256 : Nat) : Int)))] fun a HF => ?_
  replace HF := HF.sp 18 (vB (qp (4294967295 - c) (l.take k) % 256 : Nat)) rfl ((qhf (qp (4294967295 - c) (l.take k) % 256)).trans (by rw [Nat.mod_mod]))
  refine fp HF 2 5 [(20, vI k), (19, .slice A n cp)] fun a HF => ?_
  obtain ⟨gA, oA, rfl, _⟩ := hr.qj (Nat.lt_of_le_of_lt (Nat.zero_le _) (show k < n from by omega)) (by decide)
  refine s_fz HF HM 7 rfl (v := vP gA (oA + k * 1)) (Yl.ix gA oA k 1 rfl rfl rfl) fun a HF => ?_
  have hx49 := getD_lt hl (k := k) (by first | omega | (simp; omega))
  refine s_fz HF HM 8 rfl (v := vB (l.getD k 0)) (Yl.o1 hr k 0 (by first | omega | (simp; omega)) rfl rfl) fun a HF => ?_
  refine fp HF 1 9 [(23, vB (IntKind.u8.wrap (BitVec.ofInt (IntKind.u8).bits ((qp (4294967295 - c) (l.take k) % 256 : Nat) : Int) ^^^ BitVec.ofInt (IntKind.u8).bits ((l.getD k 0) : Int)).toNat))] fun a HF => ?_
  replace HF := HF.sp 23 (vB ((qp (4294967295 - c) (l.take k) % 256) ^^^ (l.getD k 0) : Nat)) rfl (q0h (m := qp (4294967295 - c) (l.take k) % 256) (n := (l.getD k 0)) (by omega) (by omega))
  refine fo HF 10 rfl rfl (s_el HF HM ei_u8 [(0, vB ((qp (4294967295 - c) (l.take k) % 256) ^^^ (l.getD k 0) : Nat))] #[vB ((qp (4294967295 - c) (l.take k) % 256) ^^^ (l.getD k 0) : Nat)] ?_)
  clear HF HM; intro a w24 g24 HF HM
  refine fo HF 11 rfl rfl (e_is HF HM [vS g24 1 1] (vW (crcT (qp (4294967295 - c) (l.take k) % 256 ^^^ l.getD k 0))) rfl rfl (qpv _ _ (qp (4294967295 - c) (l.take k) % 256 ^^^ l.getD k 0) hy8 _ (HM.rdBlk (i := 0) (n := 1) (size := 1) rfl rfl)) fun w25 hbw HM a HF => ?_)
  refine fp HF 1 12 [(26, vW (IntKind.u32.wrap (BitVec.ofInt (IntKind.u32).bits (((qp (4294967295 - c) (l.take k)) / 256 : Nat) : Int) ^^^ BitVec.ofInt (IntKind.u32).bits (crcT (qp (4294967295 - c) (l.take k) % 256 ^^^ l.getD k 0) : Int)).toNat))] fun a HF => ?_
  replace HF := HF.sp 26 (vW (qp (4294967295 - c) (l.take (k + 1)))) rfl (by have h := qf4 (m := (qp (4294967295 - c) (l.take k)) / 256) (n := crcT (qp (4294967295 - c) (l.take k) % 256 ^^^ l.getD k 0)) (by omega) (qqm (by omega)); rw [qf8 (by omega), qha]; exact h)
  refine fp HF 1 13 [(0, vW (qp (4294967295 - c) (l.take (k + 1))))] fun a HF => ?_
  refine s_d0 (qa ?_)
  refine fp HF 2 0 [(13, vI (IntKind.i64.wrap ((k : Int) + 1)))] fun a HF => ?_
  replace HF := HF.sp 13 (vI (k + 1 : Nat)) rfl (qc (by omega) (by omega))
  refine fp HF 1 2 [(5, vI (k + 1 : Nat))] fun a HF => ?_
  refine s_d0 ?_
  exact ⟨_, (by omega), k + 1, by omega, rfl, HF.sub (by kernel_rfl), HM.pk []⟩
 have hd11 := of_decide_eq_false hb11
 refine s_cf HF (wp_exit (s_fs1 ?_))
 refine fp HF 2 0 [(28, vW (IntKind.u32.wrap (4294967295 - (qp (4294967295 - c) (l.take k) : Int))))] fun a HF => ?_
 replace HF := HF.sp 28 (vW (4294967295 - (qp (4294967295 - c) (l.take k)) : Nat)) rfl (qas (by omega) (by omega))
 refine fp HF 1 2 [(4, vW (4294967295 - (qp (4294967295 - c) (l.take k)) : Nat))] fun a HF => ?_
 refine s_d0 (wp_ret ?_)
 exact s_rt1 rfl HF rfl (⟨by rw [List.take_of_length_le (by omega)], HM.below⟩)
theorem qtl (A : Option Addr) (n cp : Nat) (l : List Nat) (w : World) (hr : Rd w w.heap.size 1 A n (l.map B8)) (hln : l.length = n) (hn : n ≤ 1000000000) (hl : ∀ b ∈ l, b < 256) :
    Calls Tryz.prog 49 #[.slice A n cp] w (Is w (.int .u32 (qv l : Int))) := by
 refine s_ce Tryz.func49 [.slice A n cp] [(0, .slice A n cp)] fun a HF => ?_
 have HM := Mem.start w
 refine s_fs1 ?_
 refine fp HF 1 0 [(2, vW 0)] fun a HF => ?_
 refine s_d0 (s_fs1 ?_)
 refine fp HF 1 0 [(3, .slice A n cp)] fun a HF => ?_
 refine fo HF 1 rfl rfl (e_is HF HM [vW 0, .slice A n cp] (vW (qv l)) rfl rfl (qtk 0 (by decide) _ _ _ l _ (HM.old hr) hln hn hl) fun w4 hbw HM a HF => ?_)
 refine fp HF 1 2 [(2, vW (qv l))] fun a HF => ?_
 refine s_d0 (wp_ret ?_)
 exact s_rt1 rfl HF rfl (⟨rfl, HM.below⟩)
theorem qbx (A : Option Addr) (n cp : Nat) (l : List Nat) (w : World) (hr : Rd w w.heap.size 1 A n (l.map B8)) (hln : l.length = n) (hn : n ≤ 100000000) (hl : ∀ b ∈ l, b < 256) :
    Calls Tryz.prog 15 #[.slice A n cp] w (qaw w (sealL l)) := by
 refine s_ce Tryz.func15 [.slice A n cp] [(0, .slice A n cp)] fun a HF => ?_
 have HM := Mem.start w
 refine s_fs1 ?_
 refine fp HF 1 0 [(2, .slice none 0 0)] fun a HF => ?_
 refine s_d0 (s_fs1 ?_)
 refine fp HF 1 0 [(4, .slice A n cp)] fun a HF => ?_
 refine fo HF 1 rfl rfl (e_is HF HM [.slice A n cp] (vW (qv l)) rfl rfl (qtl _ _ _ l _ (HM.old hr) hln (by omega) hl) fun w5 hbw HM a HF => ?_)
 refine fp HF 1 2 [(3, vW (qv l))] fun a HF => ?_
 refine s_d0 ?_
 have hcs := qjy l
 refine s_fs1 ?_
 refine fo HF 0 rfl rfl ?_
 refine quc HF HM rfl ei_u8 rfl (by decide) ?_
 clear HF HM; intro a w6 g6 HF HM
 refine fp HF 1 1 [(7, .slice A n cp)] fun a HF => ?_
 refine fo HF 2 rfl rfl (qo HF HM (i := 0) rfl ei_u8 rfl rfl rfl (news := (l.map B8)) (HM.old hr) (qjt _) (by omega) (by omega) rfl (by decide) ?_)
 clear HF HM; intro a w8 A8 c8 HF HM hc8
 refine fp HF 2 3 [(10, vW (Int.tmod (qv l : Int) 256))] fun a HF => ?_
 replace HF := HF.sp 10 (vW ((qv l) % 256 : Nat)) rfl (qaj .u32 _ 256)
 refine fp HF 1 5 [(11, vB (IntKind.u8.wrap (((qv l) % 256 : Nat) : Int)))] fun a HF => ?_
 replace HF := HF.sp 11 (vB (qv l % 256 : Nat)) rfl ((qhf (qv l % 256)).trans (by rw [Nat.mod_mod]))
 refine fp HF 2 6 [(13, vW (IntKind.u32.wrap (Int.tdiv (qv l : Int) 256)))] fun a HF => ?_
 replace HF := HF.sp 13 (vW ((qv l) / 256 : Nat)) rfl (qdp .u32 256 (by show _ ≤ 4294967295; omega))
 refine fp HF 1 8 [(14, vW (Int.tmod (((qv l) / 256 : Nat) : Int) 256))] fun a HF => ?_
 replace HF := HF.sp 14 (vW (((qv l) / 256) % 256 : Nat)) rfl (qaj .u32 _ 256)
 refine fp HF 1 9 [(15, vB (IntKind.u8.wrap ((((qv l) / 256) % 256 : Nat) : Int)))] fun a HF => ?_
 replace HF := HF.sp 15 (vB (qv l / 256 % 256 : Nat)) rfl ((qhf (qv l / 256 % 256)).trans (by rw [Nat.mod_mod]))
 refine fp HF 2 10 [(17, vW (IntKind.u32.wrap (Int.tdiv (qv l : Int) 65536)))] fun a HF => ?_
 replace HF := HF.sp 17 (vW ((qv l) / 65536 : Nat)) rfl (qdp .u32 65536 (by show _ ≤ 4294967295; omega))
 refine fp HF 1 12 [(18, vW (Int.tmod (((qv l) / 65536 : Nat) : Int) 256))] fun a HF => ?_
 replace HF := HF.sp 18 (vW (((qv l) / 65536) % 256 : Nat)) rfl (qaj .u32 _ 256)
 refine fp HF 1 13 [(19, vB (IntKind.u8.wrap ((((qv l) / 65536) % 256 : Nat) : Int)))] fun a HF => ?_
 replace HF := HF.sp 19 (vB (qv l / 65536 % 256 : Nat)) rfl ((qhf (qv l / 65536 % 256)).trans (by rw [Nat.mod_mod]))
 refine fp HF 2 14 [(21, vW (IntKind.u32.wrap (Int.tdiv (qv l : Int) 16777216)))] fun a HF => ?_
 replace HF := HF.sp 21 (vW ((qv l) / 16777216 : Nat)) rfl (qdp .u32 16777216 (by show _ ≤ 4294967295; omega))
 refine fp HF 1 16 [(22, vB (IntKind.u8.wrap (((qv l) / 16777216 : Nat) : Int)))] fun a HF => ?_
 replace HF := HF.sp 22 (vB (((qv l) / 16777216) % 256 : Nat)) rfl (qhf ((qv l) / 16777216))
 refine fo HF 17 rfl rfl (s_el HF HM ei_u8 [(0, vB (qv l % 256 : Nat)), (1, vB (qv l / 256 % 256 : Nat)), (2, vB (qv l / 65536 % 256 : Nat)), (3, vB (((qv l) / 16777216) % 256 : Nat))] #[vB (qv l % 256 : Nat), vB (qv l / 256 % 256 : Nat), vB (qv l / 65536 % 256 : Nat), vB (((qv l) / 16777216) % 256 : Nat)] ?_)
 clear HF HM; intro a w23 g23 HF HM
 refine fo HF 18 rfl rfl (qo HF HM (i := 1) rfl ei_u8 rfl rfl rfl (news := ((le4 (qv l)).map B8)) (HM.rdBlk (i := 0) (n := 4) (size := 1) rfl rfl) (qjt _) (by omega) (by omega) rfl (by decide) ?_)
 clear HF HM; intro a w24 A24 c24 HF HM hc24
 refine fp HF 1 19 [(2, .slice A24 (0 + n + 4) c24)] fun a HF => ?_
 refine s_d0 ?_
 have hnA24 : 0 + n + 4 = (sealL l).length := by rw [qbj]; omega
 replace HM := HM.reRow (i := 1) (ys := (sealL l).map B8) rfl hnA24 (by simp [sealL])
 rw [hnA24] at hc24
 replace HF := HF.sp 2 (.slice A24 ((sealL l).length) c24) rfl (by rw [hnA24])
 replace HF := HF.sp 24 (.slice A24 ((sealL l).length) c24) rfl (by rw [hnA24])
 refine wp_ret ?_
 replace HM := HM.pk (fs' := [.row (.slice A24 ((sealL l).length) c24) ((sealL l).length) ((sealL l).map B8) 5 1]) [1]
 exact s_rt1 rfl HF rfl (⟨⟨_, _, rfl, HM.own (i := 0) rfl, hc24⟩, HM.below⟩)
theorem qk4 (A : Option Addr) (n cp : Nat) (l : List Nat) (w : World) (hr : Rd w w.heap.size 1 A n (l.map B8)) (hc : n ≤ cp) (hln : l.length = n) (hn : n ≤ 100000000) (hl : ∀ b ∈ l, b < 256) :
    Calls Tryz.prog 100 #[.slice A n cp] w (Is w (.bool (q0 l))) := by
 refine s_ce Tryz.func100 [.slice A n cp] [(0, .slice A n cp)] fun a HF => ?_
 have HM := Mem.start w
 refine s_fs1 ?_
 refine fp HF 1 0 [(2, .bool false)] fun a HF => ?_
 refine s_d0 (wp_seq (s_fs1 ?_))
 refine fp HF 1 0 [(3, .slice A n cp)] fun a HF => ?_
 refine s_fl HF 1 fun a HF => ?_
 refine fp HF 1 2 [(5, .bool (decide ((n : Int) < (4 : Int))))] fun a HF => ?_
 refine s_d0 ?_
 rcases HF.tf 5 rfl with ⟨hb5, HF⟩ | ⟨hb5, HF⟩
 ·
  have hd5 := of_decide_eq_true hb5
  refine s_ct HF (s_fs1 ?_)
  refine fp HF 1 0 [(2, .bool false)] fun a HF => ?_
  refine s_d0 (wp_ret ?_)
  exact s_rt1 rfl HF rfl (⟨by rw [qfb hln (by omega)], HM.below⟩)
 have hd5 := of_decide_eq_false hb5
 refine s_cf HF (wp_skip (wp_seq ?_))
 refine za HM [] [] [] fun HM HS => ?_
 refine ap HF (fun _ => HS) [0, 1, 7] (bf 11 [0, 1, 7]) [(13, .slice A n cp), (7, .slice A n cp), (6, .slice A n cp)] fun a HF => ?_
 refine s_al HF HS 2 fun a HF => ?_
 refine qh HF (fun _ => HS) (i := 3) rfl rfl (d := 9) rfl (by decide) (by kernel_rfl) (fun _ _ _ h => h) (v := vI (IntKind.i64.wrap ((n : Int) - 4))) (fun _ => Yl.pure (by kernel_rfl)) fun a HF => ?_
 replace HF := HF.sp 9 (vI (n - 4 : Nat)) rfl (qc (by omega) (by omega))
 refine s_az HF HS 4 rfl (v := .slice A (n - 4) cp) (Yl.qap ei_u8 (j := n - 4) rfl rfl rfl (by omega)) fun a HF => ?_
 refine s_az HF HS 8 rfl (v := .string (bstr l)) (Yl.str rfl rfl (fun _ h => h.old hr)) fun a HF => ?_
 refine qe [5] (by kernel_rfl) rfl ?_
 refine all_cons ?_ all_nil
 refine qf HF (i := 5) rfl rfl ?_
 refine s_ek HF HM [.slice A (n - 4) cp] (qbx _ (n - 4) _ (l.take (n - 4)) _ (HM.old (hr.toB8 (by omega))) (by rw [List.length_take]; omega) (by omega) (qep hl _)) fun A11 c11 w11 hc11 HM a HF => ?_
 refine keepS (HM.pk []) (fun HS => ?_)
 refine qe [6] (by kernel_rfl) rfl ?_
 refine all_cons ?_ all_nil
 refine qf HF (i := 6) rfl rfl ?_
 refine Yl.wp (S := fun wS => Mem w wS _) (v := .string (bstr (sealL (l.take (n - 4))))) (Yl.str rfl rfl (fun _ h => h.rd (i := 0) rfl)) HF HM rfl (by decide) fun a HF => ?_
 refine keepS HS (fun HS => ?_)
 refine ap HF (fun _ => HS) [9, 10] (bt 11 []) [(2, .bool (((bstr (sealL (l.take (n - 4))))).toList == ((bstr l)).toList))] fun a HF => ?_
 refine qk (by kernel_rfl) ?_
 replace HM := HM.pk (fs' := []) []
 refine wp_ret ?_
 exact s_rt1 rfl HF rfl (⟨by rw [qga (qf9 (qep hl _)) hl, qpp hl hln], HM.below⟩)
theorem qcl (k j : Int) (w : World) : Calls Tryz.prog 75 #[.int .i64 k, .int .i64 j] w (fun r w' => (∃ v : Int, r = .returned (.int .i64 v)) ∧ Below w.heap.size w w') := by
 refine s_ce Tryz.func75 [vI k, vI j] [(0, vI k), (1, vI j)] fun a HF => ?_
 have HM := Mem.start w
 refine s_fs1 ?_
 refine fp HF 1 0 [(4, vI 0)] fun a HF => ?_
 refine s_d0 (s_fs1 ?_)
 refine fp HF 6 0 [(4, vI (IntKind.i64.wrap ((IntKind.i64.wrap (1000003 * (IntKind.i64.wrap (k + 7)))) + j)))] fun a HF => ?_
 refine s_d0 (wp_ret ?_)
 exact s_rt1 rfl HF rfl (⟨⟨_, rfl⟩, HM.below⟩)
theorem qkj (k j : Int) (w : World) : Calls Tryz.prog 76 #[.int .i64 k, .int .i64 j] w (fun r w' => (∃ v : Int, r = .returned (.int .u64 v)) ∧ Below w.heap.size w w') := by
 refine s_ce Tryz.func76 [vI k, vI j] [(0, vI k), (1, vI j)] fun a HF => ?_
 have HM := Mem.start w
 refine s_fs1 ?_
 refine fp HF 1 0 [(4, vQ 0)] fun a HF => ?_
 refine s_d0 (s_fs1 ?_)
 refine fp HF 2 0 [(6, vI j), (5, vI k)] fun a HF => ?_
 refine fo HF 2 rfl rfl ?_
 refine e_cl HF [vI k, vI j] rfl rfl (qcl k j _) ?_
 rintro _ w7 ⟨⟨v7, rfl⟩, hbw⟩
 refine ⟨_, rfl, ?_⟩
 replace HM := HM.call hbw
 clear HF; intro a HF
 refine fp HF 3 3 [(4, vQ (IntKind.u64.wrap ((IntKind.u64.wrap v7) * 11400714819323198485)))] fun a HF => ?_
 refine s_d0 (wp_ret ?_)
 exact s_rt1 rfl HF rfl (⟨⟨_, rfl⟩, HM.below⟩)
def Spoilt (W : World) (fs : List Fact) (r : Ending) (w' : World) : Prop := r = .returned (.tuple #[]) ∧ Mem W w' fs
theorem qru {W w' : World} {fs : List Fact} {r : Ending} (hr : r = .returned (.tuple #[])) (hm : Mem W w' fs) : Spoilt W fs r w' := ⟨hr, hm⟩
theorem qys {l : List Rw} {k : Nat} (h : k < l.length) : l.drop k = l.getD k Rw.zero :: l.drop (k + 1) := by
 rw [List.drop_eq_getElem_cons h, List.getD_eq_getElem?_getD, List.getElem?_eq_getElem h]
 rfl
theorem Mem.dropRows {W w : World} {gs l m fs : List Fact} (h : Mem W w gs) (he : gs = l ++ (m ++ fs)) : Mem W w fs := (he ▸ h).subl ((List.sublist_append_right _ _).trans (List.sublist_append_right _ _))
theorem qrv (W w : World) (cp : Int) (cr : Nat) (gA : Option Addr) (gc : Nat) (gs : List Gr) (lA : Option Addr) (lc : Nat) (cl : List Int) (uA : Option Addr) (uc : Nat) (cu : List Int) (tA : Option Addr) (tc : Nat) (ts : List Tk) (sA : Option Addr) (sc : Nat) (rs : List Rw) (fs : List Fact) (HW : Mem W w (stF ⟨cp, cr, gA, gc, gs, lA, lc, cl, uA, uc, cu, tA, tc, ts, sA, sc, rs⟩ ++ fs))
    (h1 : gs.length ≤ 1000000) (h2 : cl.length ≤ 1000000) (h3 : cu.length ≤ 1000000) (h4 : ts.length ≤ 1000000) (h5 : rs.length ≤ 1000000) (h6 : ∀ y ∈ rs, y.l.length ≤ 1000000) :
    Calls Tryz.prog 46 #[.agg #[.int .i64 cp, .int .u64 (cr : Int), .slice gA gs.length gc, .slice lA cl.length lc, .slice uA cu.length uc, .slice tA ts.length tc, .slice sA rs.length sc]] w (Spoilt W fs) := by
 refine s_ce Tryz.func46 [.agg #[vI cp, vQ cr, .slice gA gs.length gc, .slice lA cl.length lc, .slice uA cu.length uc, .slice tA ts.length tc, .slice sA rs.length sc]] [(0, .agg #[vI cp, vQ cr, .slice gA gs.length gc, .slice lA cl.length lc, .slice uA cu.length uc, .slice tA ts.length tc, .slice sA rs.length sc])] fun a HF => ?_
 have HM := Mem.start w
 replace HM := HW
 replace HM : Mem W _ (.row (.slice gA gs.length gc) gs.length (gs.flatMap grL) 40 2 :: .row (.slice lA cl.length lc) cl.length (cl.map I64i) 3 1 :: .row (.slice uA cu.length uc) cu.length (cu.map I64i) 3 1 :: .row (.slice tA ts.length tc) ts.length (ts.flatMap tkL) 46 8 :: .row (.slice sA rs.length sc) rs.length (rs.map Rw.val) 44 1 :: (rwF 43 rs ++ (fs))) := HM
 refine s_fs1 ?_
 refine fo HF 0 rfl rfl (s_eb HF HM #[vI cp, vQ cr, .slice gA gs.length gc, .slice lA cl.length lc, .slice uA cu.length uc, .slice tA ts.length tc, .slice sA rs.length sc] ?_)
 clear HF HM; intro a w1 g1 HF HM
 refine s_d0 (wp_seq (s_fs1 ?_))
 refine fp HF 1 0 [(2, vI 0)] fun a HF => ?_
 refine s_d0 (wp_block ?_)
 refine qi (fun mS aS wS => ∃ (i1 : Nat) (V1 : List Value), (i1 ≤ gs.length) ∧ (V1.length = gs.length * 2) ∧ mS = gs.length - i1 ∧ Fr aS 91 [] [(2, vI i1), (1, vP g1 0)] ∧ Mem W wS (.blk g1 #[vI cp, vQ cr, .slice gA gs.length gc, .slice lA cl.length lc, .slice uA cu.length uc, .slice tA ts.length tc, .slice sA rs.length sc] 30 :: .row (.slice gA gs.length gc) gs.length V1 40 2 :: .row (.slice lA cl.length lc) cl.length (cl.map I64i) 3 1 :: .row (.slice uA cu.length uc) cu.length (cu.map I64i) 3 1 :: .row (.slice tA ts.length tc) ts.length (ts.flatMap tkL) 46 8 :: .row (.slice sA rs.length sc) rs.length (rs.map Rw.val) 44 1 :: (rwF 43 rs ++ (fs)))) (m := gs.length - 0) ⟨0, (gs.flatMap grL), Nat.zero_le _, qfi grL 2 zo _, rfl, HF.sub (by kernel_rfl), HM.pt 6 [0, 1, 2, 3, 4, 5]⟩ ?_
 clear HF HM; rintro mS a w_ ⟨i1, V1, hi, hV1, rfl, HF, HM⟩
 refine wp_seq (s_fs1 ?_)
 refine fp HF 3 0 [(10, vP g1 2), (8, vI i1)] fun a HF => ?_
 refine s_fc HF HM 3 0 fun a HF => ?_
 refine s_fl HF 4 fun a HF => ?_
 refine fp HF 1 5 [(13, .bool (decide ((i1 : Int) < (gs.length : Int))))] fun a HF => ?_
 refine s_d0 ?_
 rcases HF.tf 13 rfl with ⟨hb13, HF⟩ | ⟨hb13, HF⟩
 ·
  have hd13 := of_decide_eq_true hb13
  obtain ⟨ggA, rfl⟩ := q8 (HM.own (i := 1) rfl) (Nat.lt_of_le_of_lt (Nat.zero_le _) (show i1 < gs.length from (by omega : i1 < gs.length)))
  refine s_ct HF (wp_skip (wp_seq (wp_block ?_)))
  refine zf HM (.blk g1 #[vI cp, vQ cr, vS ggA gs.length gc, .slice lA cl.length lc, .slice uA cu.length uc, .slice tA ts.length tc, .slice sA rs.length sc] 30 :: .row (vS ggA gs.length gc) gs.length V1 40 2 :: .row (.slice lA cl.length lc) cl.length (cl.map I64i) 3 1 :: .row (.slice uA cu.length uc) cu.length (cu.map I64i) 3 1 :: .row (.slice tA ts.length tc) ts.length (ts.flatMap tkL) 46 8 :: .row (.slice sA rs.length sc) rs.length (rs.map Rw.val) 44 1 :: (rwF 43 rs ++ (fs))) 6 [0, 1, 2, 3, 4, 5] [8] fun HM HS => ?_
  refine ap HF (fun _ => HS) [0, 1, 3, 4] (bf 9 [0, 1, 3, 4]) [(20, vI i1), (19, vI i1), (17, vP g1 2)] fun a HF => ?_
  refine s_ac HF HS 2 0 fun a HF => ?_
  refine qe [5] (by kernel_rfl) rfl ?_
  refine all_cons ?_ all_nil
  refine qf HF (i := 5) rfl rfl ?_
  refine e_cl HF [vI 3, vI i1] rfl rfl (qcl 3 (i1 : Int) _) ?_
  rintro _ w21 ⟨⟨v21, rfl⟩, hbw⟩
  refine ⟨_, rfl, ?_⟩
  replace HM := HM.call hbw
  clear HF; intro a HF
  refine keepS (HM.pt 6 [0, 1, 2, 3, 4, 5]) (fun HS => ?_)
  refine s_az HF HS 6 rfl (v := .agg #[vI (-77), vI v21]) (Yl.build (vs := [(0, vI (-77)), (1, vI v21)]) rfl (by kernel_rfl) (by kernel_rfl)) fun a HF => ?_
  refine s_az HF HS 7 rfl (v := vP ggA (i1 * 2)) (Yl.ix0 ggA i1 2 rfl rfl rfl) fun a HF => ?_
  refine qe [8] (by kernel_rfl) rfl ?_
  refine all_cons ?_ all_nil
  refine qf HF (i := 8) rfl rfl ?_
  refine qc8 HF HM (i := 1) (sz := 2) rfl rfl rfl rfl si_gr rfl (by simp [Value.oneCell']) rfl (by rw [hV1]; omega) ?_
  clear HM; intro w4_8 HM
  replace HM := HM.asRow (i := 1) (ys := putAt V1 (i1 * 2) [vI (-77), vI v21]) rfl (rfl)
  refine noS (by kernel_rfl) ?_
  refine qk (by kernel_rfl) ?_
  refine qa ?_
  refine fp HF 2 0 [(15, vI (IntKind.i64.wrap ((i1 : Int) + 1)))] fun a HF => ?_
  replace HF := HF.sp 15 (vI (i1 + 1 : Nat)) rfl (qc (by omega) (by omega))
  refine fp HF 1 2 [(2, vI (i1 + 1 : Nat))] fun a HF => ?_
  refine s_d0 ?_
  exact ⟨_, (by omega), i1 + 1, (putAt V1 (i1 * 2) [vI (-77), vI v21]), by omega, by rw [qa1 (by rw [hV1]; show i1 * 2 + 2 ≤ gs.length * 2; omega)]; exact hV1, rfl, HF.sub (by kernel_rfl), HM.pt 6 [0, 1, 2, 3, 4, 5]⟩
 have hd13 := of_decide_eq_false hb13
 refine s_cf HF (wp_exit (wp_seq (s_fs1 ?_)))
 refine fp HF 1 0 [(3, vI 0)] fun a HF => ?_
 refine s_d0 (wp_block ?_)
 refine qi (fun mS aS wS => ∃ (i2 : Nat) (V2 : List Value), (i2 ≤ cl.length) ∧ (V2.length = cl.length * 1) ∧ mS = cl.length - i2 ∧ Fr aS 91 [] [(3, vI i2), (13, .bool false), (2, vI i1), (1, vP g1 0)] ∧ Mem W wS (.blk g1 #[vI cp, vQ cr, .slice gA gs.length gc, .slice lA cl.length lc, .slice uA cu.length uc, .slice tA ts.length tc, .slice sA rs.length sc] 30 :: .row (.slice gA gs.length gc) gs.length V1 40 2 :: .row (.slice lA cl.length lc) cl.length V2 3 1 :: .row (.slice uA cu.length uc) cu.length (cu.map I64i) 3 1 :: .row (.slice tA ts.length tc) ts.length (ts.flatMap tkL) 46 8 :: .row (.slice sA rs.length sc) rs.length (rs.map Rw.val) 44 1 :: (rwF 43 rs ++ (fs)))) (m := cl.length - 0) ⟨0, (cl.map I64i), Nat.zero_le _, by rw [List.length_map, Nat.mul_one], rfl, HF.sub (by kernel_rfl), HM.pt 6 [0, 1, 2, 3, 4, 5]⟩ ?_
 clear HF HM; rintro mS a w_ ⟨i2, V2, hi, hV2, rfl, HF, HM⟩
 refine wp_seq (s_fs1 ?_)
 refine fp HF 2 0 [(25, vP g1 3), (24, vI i2)] fun a HF => ?_
 refine s_fc HF HM 2 0 fun a HF => ?_
 refine s_fl HF 3 fun a HF => ?_
 refine fp HF 1 4 [(28, .bool (decide ((i2 : Int) < (cl.length : Int))))] fun a HF => ?_
 refine s_d0 ?_
 rcases HF.tf 28 rfl with ⟨hb28, HF⟩ | ⟨hb28, HF⟩
 ·
  have hd28 := of_decide_eq_true hb28
  obtain ⟨glA, rfl⟩ := q8 (HM.own (i := 2) rfl) (Nat.lt_of_le_of_lt (Nat.zero_le _) (show i2 < cl.length from (by omega : i2 < cl.length)))
  refine s_ct HF (wp_skip (wp_seq (wp_block ?_)))
  refine zf HM (.blk g1 #[vI cp, vQ cr, .slice gA gs.length gc, vS glA cl.length lc, .slice uA cu.length uc, .slice tA ts.length tc, .slice sA rs.length sc] 30 :: .row (.slice gA gs.length gc) gs.length V1 40 2 :: .row (vS glA cl.length lc) cl.length V2 3 1 :: .row (.slice uA cu.length uc) cu.length (cu.map I64i) 3 1 :: .row (.slice tA ts.length tc) ts.length (ts.flatMap tkL) 46 8 :: .row (.slice sA rs.length sc) rs.length (rs.map Rw.val) 44 1 :: (rwF 43 rs ++ (fs))) 6 [0, 1, 2, 3, 4, 5] [6] fun HM HS => ?_
  refine ap HF (fun _ => HS) [0, 2, 3] (bf 7 [0, 2, 3]) [(34, vI i2), (33, vI i2), (31, vP g1 3)] fun a HF => ?_
  refine s_ac HF HS 1 0 fun a HF => ?_
  refine qe [4] (by kernel_rfl) rfl ?_
  refine all_cons ?_ all_nil
  refine qf HF (i := 4) rfl rfl ?_
  refine e_cl HF [vI 4, vI i2] rfl rfl (qcl 4 (i2 : Int) _) ?_
  rintro _ w35 ⟨⟨v35, rfl⟩, hbw⟩
  refine ⟨_, rfl, ?_⟩
  replace HM := HM.call hbw
  clear HF; intro a HF
  refine keepS (HM.pt 6 [0, 1, 2, 3, 4, 5]) (fun HS => ?_)
  refine s_az HF HS 5 rfl (v := vP glA (i2 * 1)) (Yl.ix0 glA i2 1 rfl rfl rfl) fun a HF => ?_
  refine qe [6] (by kernel_rfl) rfl ?_
  refine all_cons ?_ all_nil
  refine qf HF (i := 6) rfl rfl ?_
  refine qa5 HF HM (i := 2) rfl rfl rfl rfl (by kernel_rfl) rfl rfl (by rw [hV2]; omega) ?_
  clear HM; intro w8_6 HM
  replace HM := HM.asRow (i := 2) (ys := putAt V2 (i2 * 1) [vI v35]) rfl (rfl)
  refine noS (by kernel_rfl) ?_
  refine qk (by kernel_rfl) ?_
  refine qa ?_
  refine fp HF 2 0 [(30, vI (IntKind.i64.wrap ((i2 : Int) + 1)))] fun a HF => ?_
  replace HF := HF.sp 30 (vI (i2 + 1 : Nat)) rfl (qc (by omega) (by omega))
  refine fp HF 1 2 [(3, vI (i2 + 1 : Nat))] fun a HF => ?_
  refine s_d0 ?_
  exact ⟨_, (by omega), i2 + 1, (putAt V2 (i2 * 1) [vI v35]), by omega, by rw [qa1 (by rw [hV2]; show i2 * 1 + 1 ≤ cl.length * 1; omega)]; exact hV2, rfl, HF.sub (by kernel_rfl), HM.pt 6 [0, 1, 2, 3, 4, 5]⟩
 have hd28 := of_decide_eq_false hb28
 refine s_cf HF (wp_exit (wp_seq (s_fs1 ?_)))
 refine fp HF 1 0 [(4, vI 0)] fun a HF => ?_
 refine s_d0 (wp_block ?_)
 refine qi (fun mS aS wS => ∃ (i3 : Nat) (V3 : List Value), (i3 ≤ cu.length) ∧ (V3.length = cu.length * 1) ∧ mS = cu.length - i3 ∧ Fr aS 91 [] [(4, vI i3), (28, .bool false), (3, vI i2), (13, .bool false), (2, vI i1), (1, vP g1 0)] ∧ Mem W wS (.blk g1 #[vI cp, vQ cr, .slice gA gs.length gc, .slice lA cl.length lc, .slice uA cu.length uc, .slice tA ts.length tc, .slice sA rs.length sc] 30 :: .row (.slice gA gs.length gc) gs.length V1 40 2 :: .row (.slice lA cl.length lc) cl.length V2 3 1 :: .row (.slice uA cu.length uc) cu.length V3 3 1 :: .row (.slice tA ts.length tc) ts.length (ts.flatMap tkL) 46 8 :: .row (.slice sA rs.length sc) rs.length (rs.map Rw.val) 44 1 :: (rwF 43 rs ++ (fs)))) (m := cu.length - 0) ⟨0, (cu.map I64i), Nat.zero_le _, by rw [List.length_map, Nat.mul_one], rfl, HF.sub (by kernel_rfl), HM.pt 6 [0, 1, 2, 3, 4, 5]⟩ ?_
 clear HF HM; rintro mS a w_ ⟨i3, V3, hi, hV3, rfl, HF, HM⟩
 refine wp_seq (s_fs1 ?_)
 refine fp HF 2 0 [(38, vP g1 4), (37, vI i3)] fun a HF => ?_
 refine s_fc HF HM 2 0 fun a HF => ?_
 refine s_fl HF 3 fun a HF => ?_
 refine fp HF 1 4 [(41, .bool (decide ((i3 : Int) < (cu.length : Int))))] fun a HF => ?_
 refine s_d0 ?_
 rcases HF.tf 41 rfl with ⟨hb41, HF⟩ | ⟨hb41, HF⟩
 ·
  have hd41 := of_decide_eq_true hb41
  obtain ⟨guA, rfl⟩ := q8 (HM.own (i := 3) rfl) (Nat.lt_of_le_of_lt (Nat.zero_le _) (show i3 < cu.length from (by omega : i3 < cu.length)))
  refine s_ct HF (wp_skip (wp_seq (wp_block ?_)))
  refine zf HM (.blk g1 #[vI cp, vQ cr, .slice gA gs.length gc, .slice lA cl.length lc, vS guA cu.length uc, .slice tA ts.length tc, .slice sA rs.length sc] 30 :: .row (.slice gA gs.length gc) gs.length V1 40 2 :: .row (.slice lA cl.length lc) cl.length V2 3 1 :: .row (vS guA cu.length uc) cu.length V3 3 1 :: .row (.slice tA ts.length tc) ts.length (ts.flatMap tkL) 46 8 :: .row (.slice sA rs.length sc) rs.length (rs.map Rw.val) 44 1 :: (rwF 43 rs ++ (fs))) 6 [0, 1, 2, 3, 4, 5] [6] fun HM HS => ?_
  refine ap HF (fun _ => HS) [0, 2, 3] (bf 7 [0, 2, 3]) [(47, vI i3), (46, vI i3), (44, vP g1 4)] fun a HF => ?_
  refine s_ac HF HS 1 0 fun a HF => ?_
  refine qe [4] (by kernel_rfl) rfl ?_
  refine all_cons ?_ all_nil
  refine qf HF (i := 4) rfl rfl ?_
  refine e_cl HF [vI 5, vI i3] rfl rfl (qcl 5 (i3 : Int) _) ?_
  rintro _ w48 ⟨⟨v48, rfl⟩, hbw⟩
  refine ⟨_, rfl, ?_⟩
  replace HM := HM.call hbw
  clear HF; intro a HF
  refine keepS (HM.pt 6 [0, 1, 2, 3, 4, 5]) (fun HS => ?_)
  refine s_az HF HS 5 rfl (v := vP guA (i3 * 1)) (Yl.ix0 guA i3 1 rfl rfl rfl) fun a HF => ?_
  refine qe [6] (by kernel_rfl) rfl ?_
  refine all_cons ?_ all_nil
  refine qf HF (i := 6) rfl rfl ?_
  refine qa5 HF HM (i := 3) rfl rfl rfl rfl (by kernel_rfl) rfl rfl (by rw [hV3]; omega) ?_
  clear HM; intro w12_6 HM
  replace HM := HM.asRow (i := 3) (ys := putAt V3 (i3 * 1) [vI v48]) rfl (rfl)
  refine noS (by kernel_rfl) ?_
  refine qk (by kernel_rfl) ?_
  refine qa ?_
  refine fp HF 2 0 [(43, vI (IntKind.i64.wrap ((i3 : Int) + 1)))] fun a HF => ?_
  replace HF := HF.sp 43 (vI (i3 + 1 : Nat)) rfl (qc (by omega) (by omega))
  refine fp HF 1 2 [(4, vI (i3 + 1 : Nat))] fun a HF => ?_
  refine s_d0 ?_
  exact ⟨_, (by omega), i3 + 1, (putAt V3 (i3 * 1) [vI v48]), by omega, by rw [qa1 (by rw [hV3]; show i3 * 1 + 1 ≤ cu.length * 1; omega)]; exact hV3, rfl, HF.sub (by kernel_rfl), HM.pt 6 [0, 1, 2, 3, 4, 5]⟩
 have hd41 := of_decide_eq_false hb41
 refine s_cf HF (wp_exit (wp_seq (s_fs1 ?_)))
 refine fp HF 1 0 [(5, vI 0)] fun a HF => ?_
 refine s_d0 (wp_block ?_)
 refine qi (fun mS aS wS => ∃ (i4 : Nat) (V4 : List Value), (i4 ≤ ts.length) ∧ (V4.length = ts.length * 8) ∧ mS = ts.length - i4 ∧ Fr aS 91 [] [(5, vI i4), (41, .bool false), (4, vI i3), (28, .bool false), (3, vI i2), (13, .bool false), (2, vI i1), (1, vP g1 0)] ∧ Mem W wS (.blk g1 #[vI cp, vQ cr, .slice gA gs.length gc, .slice lA cl.length lc, .slice uA cu.length uc, .slice tA ts.length tc, .slice sA rs.length sc] 30 :: .row (.slice gA gs.length gc) gs.length V1 40 2 :: .row (.slice lA cl.length lc) cl.length V2 3 1 :: .row (.slice uA cu.length uc) cu.length V3 3 1 :: .row (.slice tA ts.length tc) ts.length V4 46 8 :: .row (.slice sA rs.length sc) rs.length (rs.map Rw.val) 44 1 :: (rwF 43 rs ++ (fs)))) (m := ts.length - 0) ⟨0, (ts.flatMap tkL), Nat.zero_le _, qfi tkL 8 zw _, rfl, HF.sub (by kernel_rfl), HM.pt 6 [0, 1, 2, 3, 4, 5]⟩ ?_
 clear HF HM; rintro mS a w_ ⟨i4, V4, hi, hV4, rfl, HF, HM⟩
 refine wp_seq (s_fs1 ?_)
 refine fp HF 2 0 [(51, vP g1 5), (50, vI i4)] fun a HF => ?_
 refine s_fc HF HM 2 0 fun a HF => ?_
 refine s_fl HF 3 fun a HF => ?_
 refine fp HF 1 4 [(54, .bool (decide ((i4 : Int) < (ts.length : Int))))] fun a HF => ?_
 refine s_d0 ?_
 rcases HF.tf 54 rfl with ⟨hb54, HF⟩ | ⟨hb54, HF⟩
 ·
  have hd54 := of_decide_eq_true hb54
  obtain ⟨gtA, rfl⟩ := q8 (HM.own (i := 4) rfl) (Nat.lt_of_le_of_lt (Nat.zero_le _) (show i4 < ts.length from (by omega : i4 < ts.length)))
  refine s_ct HF (wp_skip (wp_seq (wp_block ?_)))
  refine zf HM (.blk g1 #[vI cp, vQ cr, .slice gA gs.length gc, .slice lA cl.length lc, .slice uA cu.length uc, vS gtA ts.length tc, .slice sA rs.length sc] 30 :: .row (.slice gA gs.length gc) gs.length V1 40 2 :: .row (.slice lA cl.length lc) cl.length V2 3 1 :: .row (.slice uA cu.length uc) cu.length V3 3 1 :: .row (vS gtA ts.length tc) ts.length V4 46 8 :: .row (.slice sA rs.length sc) rs.length (rs.map Rw.val) 44 1 :: (rwF 43 rs ++ (fs))) 6 [0, 1, 2, 3, 4, 5] [7] fun HM HS => ?_
  refine ap HF (fun _ => HS) [0, 2, 3] (bf 8 [0, 2, 3]) [(60, vI i4), (59, vI i4), (57, vP g1 5)] fun a HF => ?_
  refine s_ac HF HS 1 0 fun a HF => ?_
  refine qe [4] (by kernel_rfl) rfl ?_
  refine all_cons ?_ all_nil
  refine qf HF (i := 4) rfl rfl ?_
  refine e_cl HF [vI 6, vI i4] rfl rfl (qcl 6 (i4 : Int) _) ?_
  rintro _ w61 ⟨⟨v61, rfl⟩, hbw⟩
  refine ⟨_, rfl, ?_⟩
  replace HM := HM.call hbw
  clear HF; intro a HF
  refine keepS (HM.pt 6 [0, 1, 2, 3, 4, 5]) (fun HS => ?_)
  refine s_az HF HS 5 rfl (v := .agg #[vI v61, vI 0, vI 0, vI 0, vQ 0, .bool false, vQ 0, vW 0]) (Yl.build (vs := [(0, vI v61)]) rfl (by kernel_rfl) (by kernel_rfl)) fun a HF => ?_
  refine s_az HF HS 6 rfl (v := vP gtA (i4 * 8)) (Yl.ix0 gtA i4 8 rfl rfl rfl) fun a HF => ?_
  refine qe [7] (by kernel_rfl) rfl ?_
  refine all_cons ?_ all_nil
  refine qf HF (i := 7) rfl rfl ?_
  refine qc8 HF HM (i := 4) (sz := 8) rfl rfl rfl rfl si_tk rfl (by simp [Value.oneCell']) rfl (by rw [hV4]; omega) ?_
  clear HM; intro w16_7 HM
  replace HM := HM.asRow (i := 4) (ys := putAt V4 (i4 * 8) [vI v61, vI 0, vI 0, vI 0, vQ 0, .bool false, vQ 0, vW 0]) rfl (rfl)
  refine noS (by kernel_rfl) ?_
  refine qk (by kernel_rfl) ?_
  refine qa ?_
  refine fp HF 2 0 [(56, vI (IntKind.i64.wrap ((i4 : Int) + 1)))] fun a HF => ?_
  replace HF := HF.sp 56 (vI (i4 + 1 : Nat)) rfl (qc (by omega) (by omega))
  refine fp HF 1 2 [(5, vI (i4 + 1 : Nat))] fun a HF => ?_
  refine s_d0 ?_
  exact ⟨_, (by omega), i4 + 1, (putAt V4 (i4 * 8) [vI v61, vI 0, vI 0, vI 0, vQ 0, .bool false, vQ 0, vW 0]), by omega, by rw [qa1 (by rw [hV4]; show i4 * 8 + 8 ≤ ts.length * 8; omega)]; exact hV4, rfl, HF.sub (by kernel_rfl), HM.pt 6 [0, 1, 2, 3, 4, 5]⟩
 have hd54 := of_decide_eq_false hb54
 refine s_cf HF (wp_exit (s_fs1 ?_))
 refine fp HF 1 0 [(6, vI 0)] fun a HF => ?_
 refine s_d0 (wp_block ?_)
 refine qi (fun mS aS wS => ∃ (g : Nat), (g ≤ rs.length) ∧ mS = rs.length - g ∧ Fr aS 91 [] [(6, vI g), (54, .bool false), (5, vI i4), (41, .bool false), (4, vI i3), (28, .bool false), (3, vI i2), (13, .bool false), (2, vI i1), (1, vP g1 0)] ∧ Mem W wS (.blk g1 #[vI cp, vQ cr, .slice gA gs.length gc, .slice lA cl.length lc, .slice uA cu.length uc, .slice tA ts.length tc, .slice sA rs.length sc] 30 :: .row (.slice gA gs.length gc) gs.length V1 40 2 :: .row (.slice lA cl.length lc) cl.length V2 3 1 :: .row (.slice uA cu.length uc) cu.length V3 3 1 :: .row (.slice tA ts.length tc) ts.length V4 46 8 :: .row (.slice sA rs.length sc) rs.length (rs.map Rw.val) 44 1 :: (rwF 43 (rs.drop g) ++ (fs)))) (m := rs.length - 0) ⟨0, Nat.zero_le _, rfl, HF.sub (by kernel_rfl), HM.pt 6 [0, 1, 2, 3, 4, 5]⟩ ?_
 clear HF HM; rintro mS a w_ ⟨g, hg, rfl, HF, HM⟩
 refine wp_seq (s_fs1 ?_)
 refine fp HF 2 0 [(65, vP g1 6), (64, vI g)] fun a HF => ?_
 refine s_fc HF HM 2 0 fun a HF => ?_
 refine s_fl HF 3 fun a HF => ?_
 refine fp HF 1 4 [(68, .bool (decide ((g : Int) < (rs.length : Int))))] fun a HF => ?_
 refine s_d0 ?_
 rcases HF.tf 68 rfl with ⟨hb68, HF⟩ | ⟨hb68, HF⟩
 ·
  have hd68 := of_decide_eq_true hb68
  obtain ⟨gsA, rfl⟩ := q8 (HM.own (i := 5) rfl) (Nat.lt_of_le_of_lt (Nat.zero_le _) (show g < rs.length from (by omega : g < rs.length)))
  have hg68 : g < rs.length := by omega
  obtain ⟨⟨yA, yc, yl⟩, hy⟩ : ∃ y, rs.getD g Rw.zero = y := ⟨_, rfl⟩
  have hyl : yl.length ≤ 1000000 := by have := h6 _ (qu Rw.zero hg68); rw [hy] at this; exact this
  have hdr := qys hg68
  rw [hy] at hdr
  rw [hdr] at HM
  replace HM : Mem W _ (.blk g1 #[vI cp, vQ cr, .slice gA gs.length gc, .slice lA cl.length lc, .slice uA cu.length uc, .slice tA ts.length tc, vS gsA rs.length sc] 30 :: .row (.slice gA gs.length gc) gs.length V1 40 2 :: .row (.slice lA cl.length lc) cl.length V2 3 1 :: .row (.slice uA cu.length uc) cu.length V3 3 1 :: .row (.slice tA ts.length tc) ts.length V4 46 8 :: .row (vS gsA rs.length sc) rs.length (rs.map Rw.val) 44 1 :: .row (.slice yA yl.length yc) yl.length (yl.flatMap spL) 43 3 :: (rwF 43 (rs.drop (g + 1)) ++ (fs))) := HM
  refine s_ct HF (wp_skip (wp_seq (wp_block (s_fs1 ?_))))
  refine fp HF 1 0 [(7, vI 0)] fun a HF => ?_
  refine s_d0 (wp_block ?_)
  refine qi (fun mS aS wS => ∃ (c : Nat) (V5 : List Value), (c ≤ yl.length) ∧ (V5.length = yl.length * 3) ∧ mS = yl.length - c ∧ Fr aS 91 [] [(7, vI c), (68, .bool true), (6, vI g), (54, .bool false), (5, vI i4), (41, .bool false), (4, vI i3), (28, .bool false), (3, vI i2), (13, .bool false), (2, vI i1), (1, vP g1 0)] ∧ Mem W wS (.blk g1 #[vI cp, vQ cr, .slice gA gs.length gc, .slice lA cl.length lc, .slice uA cu.length uc, .slice tA ts.length tc, vS gsA rs.length sc] 30 :: .row (.slice gA gs.length gc) gs.length V1 40 2 :: .row (.slice lA cl.length lc) cl.length V2 3 1 :: .row (.slice uA cu.length uc) cu.length V3 3 1 :: .row (.slice tA ts.length tc) ts.length V4 46 8 :: .row (vS gsA rs.length sc) rs.length (rs.map Rw.val) 44 1 :: .row (.slice yA yl.length yc) yl.length V5 43 3 :: (rwF 43 (rs.drop (g + 1)) ++ (fs)))) (m := yl.length - 0) ⟨0, (yl.flatMap spL), Nat.zero_le _, qfi spL 3 qak _, rfl, HF.sub (by kernel_rfl), HM.pt 7 [0, 1, 2, 3, 4, 5, 6]⟩ ?_
  clear HF HM; rintro mS a w_ ⟨c, V5, hc, hV5, rfl, HF, HM⟩
  refine wp_seq (s_fs1 ?_)
  refine fp HF 2 0 [(72, vP g1 6), (71, vI c)] fun a HF => ?_
  refine s_fc HF HM 2 0 fun a HF => ?_
  refine fp HF 1 3 [(74, vI g)] fun a HF => ?_
  refine s_fz HF HM 4 rfl (v := vP gsA (g * 1)) (Yl.ix0 gsA g 1 rfl rfl rfl) fun a HF => ?_
  refine s_fz HF HM 5 rfl (v := .slice ((rs.getD g Rw.zero).A) ((rs.getD g Rw.zero).l.length) ((rs.getD g Rw.zero).c)) (Yl.r1 5 g Rw.zero (by omega) rfl rfl rfl) fun a HF => ?_
  replace HF := HF.sp 76 (.slice yA yl.length yc) rfl (by rw [hy])
  refine s_fl HF 6 fun a HF => ?_
  refine fp HF 1 7 [(78, .bool (decide ((c : Int) < (yl.length : Int))))] fun a HF => ?_
  refine s_d0 ?_
  rcases HF.tf 78 rfl with ⟨hb78, HF⟩ | ⟨hb78, HF⟩
  ·
   have hd78 := of_decide_eq_true hb78
   obtain ⟨gyA, rfl⟩ := q8 (HM.own (i := 6) rfl) (Nat.lt_of_le_of_lt (Nat.zero_le _) (show c < yl.length from (by omega : c < yl.length)))
   refine s_ct HF (wp_skip (wp_seq (wp_block ?_)))
   refine zf HM (.blk g1 #[vI cp, vQ cr, .slice gA gs.length gc, .slice lA cl.length lc, .slice uA cu.length uc, .slice tA ts.length tc, vS gsA rs.length sc] 30 :: .row (.slice gA gs.length gc) gs.length V1 40 2 :: .row (.slice lA cl.length lc) cl.length V2 3 1 :: .row (.slice uA cu.length uc) cu.length V3 3 1 :: .row (.slice tA ts.length tc) ts.length V4 46 8 :: .row (vS gsA rs.length sc) rs.length (rs.map Rw.val) 44 1 :: .row (vS gyA yl.length yc) yl.length V5 43 3 :: (rwF 43 (rs.drop (g + 1)) ++ (fs))) 7 [0, 1, 2, 3, 4, 5, 6] [10] fun HM HS => ?_
   refine ap HF (fun _ => HS) [0, 2, 5, 6] (bf 11 [0, 2, 5, 6]) [(87, vI c), (86, vI c), (83, vI g), (81, vP g1 6)] fun a HF => ?_
   refine s_ac HF HS 1 0 fun a HF => ?_
   refine s_az HF HS 3 rfl (v := vP gsA (g * 1)) (Yl.ix0 gsA g 1 rfl rfl rfl) fun a HF => ?_
   refine s_az HF HS 4 rfl (v := .slice ((rs.getD g Rw.zero).A) ((rs.getD g Rw.zero).l.length) ((rs.getD g Rw.zero).c)) (Yl.r1 5 g Rw.zero (by omega) rfl rfl rfl) fun a HF => ?_
   replace HF := HF.sp 85 (vS gyA yl.length yc) rfl (by rw [hy])
   refine qe [7] (by kernel_rfl) rfl ?_
   refine all_cons ?_ all_nil
   refine qf HF (i := 7) rfl rfl ?_
   refine e_cl HF [vI 7, vI c] rfl rfl (qkj 7 (c : Int) _) ?_
   rintro _ w88 ⟨⟨v88, rfl⟩, hbw⟩
   refine ⟨_, rfl, ?_⟩
   replace HM := HM.call hbw
   clear HF; intro a HF
   refine keepS (HM.pt 7 [0, 1, 2, 3, 4, 5, 6]) (fun HS => ?_)
   refine s_az HF HS 8 rfl (v := .agg #[vQ v88, vW 0, vQ 0]) (Yl.build (vs := [(0, vQ v88)]) rfl (by kernel_rfl) (by kernel_rfl)) fun a HF => ?_
   refine s_az HF HS 9 rfl (v := vP gyA (c * 3)) (Yl.ix0 gyA c 3 rfl rfl rfl) fun a HF => ?_
   refine qe [10] (by kernel_rfl) rfl ?_
   refine all_cons ?_ all_nil
   refine qf HF (i := 10) rfl rfl ?_
   refine qc8 HF HM (i := 6) (sz := 3) rfl rfl rfl rfl si_sp rfl (by simp [Value.oneCell']) rfl (by rw [hV5]; omega) ?_
   clear HM; intro w23_10 HM
   replace HM := HM.asRow (i := 6) (ys := putAt V5 (c * 3) [vQ v88, vW 0, vQ 0]) rfl (rfl)
   refine noS (by kernel_rfl) ?_
   refine qk (by kernel_rfl) ?_
   refine qa ?_
   refine fp HF 2 0 [(80, vI (IntKind.i64.wrap ((c : Int) + 1)))] fun a HF => ?_
   replace HF := HF.sp 80 (vI (c + 1 : Nat)) rfl (qc (by omega) (by omega))
   refine fp HF 1 2 [(7, vI (c + 1 : Nat))] fun a HF => ?_
   refine s_d0 ?_
   exact ⟨_, (by omega), c + 1, (putAt V5 (c * 3) [vQ v88, vW 0, vQ 0]), by omega, by rw [qa1 (by rw [hV5]; show c * 3 + 3 ≤ yl.length * 3; omega)]; exact hV5, rfl, HF.sub (by kernel_rfl), HM.pt 7 [0, 1, 2, 3, 4, 5, 6]⟩
  have hd78 := of_decide_eq_false hb78
  refine s_cf HF (wp_exit (qa ?_))
  refine fp HF 2 0 [(70, vI (IntKind.i64.wrap ((g : Int) + 1)))] fun a HF => ?_
  replace HF := HF.sp 70 (vI (g + 1 : Nat)) rfl (qc (by omega) (by omega))
  refine fp HF 1 2 [(6, vI (g + 1 : Nat))] fun a HF => ?_
  refine s_d0 ?_
  exact ⟨_, (by omega), g + 1, by omega, rfl, HF.sub (by kernel_rfl), HM.pt 7 [0, 1, 2, 3, 4, 5]⟩
 have hd68 := of_decide_eq_false hb68
 refine s_cf HF (wp_exit ?_)
 exact norm0 rfl HF (qru rfl (HM.dropRows (l := [.blk g1 #[vI cp, vQ cr, .slice gA gs.length gc, .slice lA cl.length lc, .slice uA cu.length uc, .slice tA ts.length tc, .slice sA rs.length sc] 30, .row (.slice gA gs.length gc) gs.length V1 40 2, .row (.slice lA cl.length lc) cl.length V2 3 1, .row (.slice uA cu.length uc) cu.length V3 3 1, .row (.slice tA ts.length tc) ts.length V4 46 8, .row (.slice sA rs.length sc) rs.length (rs.map Rw.val) 44 1]) (m := rwF 43 (rs.drop g)) rfl))
theorem qve (W w : World) (x : Stm) (fs : List Fact) (HW : Mem W w (stF x ++ fs)) (hf : StFew x) : Calls Tryz.prog 46 #[.agg x.cells] w (Spoilt W fs) := qrv W w x.cpus x.credit x.gA x.gc x.gs x.lA x.lc x.cl x.uA x.uc x.cu x.tA x.tc x.ts x.sA x.sc x.rs fs HW hf.g hf.l hf.u hf.t hf.s hf.r
end Go.Proofs.YtggpmlaappaopaaGreatDoor
