/- Parts. -/
import Derived.Test.YtfeheccoijnbaaaDoorQRef01
import Derived.Test.YtfeheccoijnbaaaDoorQZ2
set_option linter.all false
set_option maxRecDepth 100000
set_option maxHeartbeats 8000000
namespace Go.Proofs.YtfeheccoijnbaaaDoor
open Go.RowKit
theorem qq1 (A : Option Addr) (n cp : Nat) (l : List Nat) (B : Nat) (w : World) (hL : LaidX B w) (hB : B ≤ w.heap.size) (hr : Rd w w.heap.size 1 A n (l.map B8)) (hc : n ≤ cp) (hln : l.length = n) (hn : n ≤ 9223372036854775807) (hl : ∀ b ∈ l, b < 256) :
    Calls Tryd.prog 47 #[.slice A n cp] w (qma 45 w (readB l)) := by
 refine qg (vs := [.slice A n cp]) Tryd.func47 rfl rfl (by kernel_rfl) (σ0 := [(0, .slice A n cp)]) rfl ?_
 intro a HF
 have HM := Mem.start w
 refine wp_seq (qa ?_)
 refine fo HF 0 rfl rfl ?_
 refine qq HF HM (cs := #[vB 0, vB 0, vI 0, vI 0, .slice none 0 0]) rfl (by kernel_rfl) rfl (by decide) ?_
 clear HF HM; intro a w2 g2 HF HM
 refine fp HF 2 1 [(4, vI 0), (3, vI 0)] fun a HF => ?_
 refine qb rfl (wp_seq (qa ?_))
 refine fp HF 1 0 [(10, .slice A n cp)] fun a HF => ?_
 refine fo HF 1 rfl rfl ?_
 refine e_is HF HM [.slice A n cp] (.tuple #[vI ((lenR l).1), vI ((lenR l).2)]) rfl rfl (qog A n cp l _ (HM.old hr) hln hn hl) fun w11 hbw HM a HF => ?_
 refine fp HF 5 2 [(6, vI ((lenR l).2)), (5, vI ((lenR l).1))] fun a HF => ?_
 refine qb rfl (wp_seq (wp_seq (qa ?_)))
 refine fp HF 2 0 [(15, .bool (((lenR l).2 : Int) != (0 : Int)))] fun a HF => ?_
 refine qb rfl ?_
 rcases HF.tf 15 rfl with ⟨hb15, HF⟩ | ⟨hb15, HF⟩
 ·
  have hd15 := bne_iff_ne.1 hb15
  refine qe HF rfl (wp_seq (qa ?_))
  refine fy HF HM 0 rfl rfl rfl (v := .agg #[vB 0, vB 0, vI 0, vI 0, .slice none 0 0]) (Yl.build (vs := []) rfl (by kernel_rfl) (by kernel_rfl)) fun a HF => ?_
  refine fp HF 1 1 [(17, vI ((lenR l).2))] fun a HF => ?_
  refine fo HF 2 rfl rfl ?_
  refine e_sa HF HM 0 rfl rfl rfl rfl rfl si_bk rfl rfl (by simp [Value.oneCell']) ?_
  clear HM; intro w3_2 HM
  refine fp HF 2 3 [(4, vI ((lenR l).2)), (3, vI 0)] fun a HF => ?_
  refine qb rfl (wp_ret ?_)
  exact ret3 rfl HF (.cellS (i := 0) HF HM rfl rfl si_bk rfl) (.tmp HF rfl) (.tmp HF rfl) (qas (qqx (by omega)) HM.below)
 have hd15 := bne_eq_false_iff_eq.1 hb15
 have hl0 : (lenR l).2 = 0 := by omega
 obtain ⟨v1, v2, v3, v4⟩ := qqz hl0
 obtain ⟨Lb, hLb⟩ : ∃ x, x = l.take (lenR l).1 := ⟨_, rfl⟩
 have hrL : Rd w w.heap.size 1 A (lenR l).1 (Lb.map B8) := by rw [hLb]; exact hr.toB8 (by omega)
 have hlL : ∀ b ∈ Lb, b < 256 := by rw [hLb]; exact qbe hl _
 have hnL : Lb.length = (lenR l).1 := by rw [hLb, List.length_take]; omega
 refine qd HF rfl (wp_skip (wp_seq (qa ?_)))
 refine fp HF 2 0 [(19, vI ((lenR l).1)), (18, .slice A n cp)] fun a HF => ?_
 refine fy HF HM 2 rfl rfl rfl (v := .slice A ((lenR l).1) cp) (Yl.qcc ei_u8 (j := (lenR l).1) rfl rfl rfl (by omega)) fun a HF => ?_
 refine fp HF 1 3 [(0, .slice A ((lenR l).1) cp)] fun a HF => ?_
 refine qb rfl ?_
 obtain ⟨gA, oA, rfl, _⟩ := hrL.zm (Nat.lt_of_le_of_lt (Nat.zero_le _) (show 0 < (lenR l).1 from by omega)) (by decide)
 refine wp_seq (wp_block (wp_seq (qa ?_)))
 refine fp HF 1 0 [(22, .slice (some ⟨gA, oA, none⟩) ((lenR l).1) cp)] fun a HF => ?_
 refine fo HF 1 rfl rfl ?_
 refine e_is HF HM [.slice (some ⟨gA, oA, none⟩) ((lenR l).1) cp] (.bool (qbu Lb)) rfl rfl (qof _ (lenR l).1 cp Lb B _ (hL.mem HM hB) (HM.le hB) (HM.old hrL) (by omega) hnL (by omega) hlL) fun w23 hbw HM a HF => ?_
 refine fp HF 2 2 [(21, .bool (!(qbu Lb)))] fun a HF => ?_
 refine qb rfl ?_
 rcases HF.tf 21 rfl with ⟨hb21, HF⟩ | ⟨hb21, HF⟩
 ·
  have hs : qbu Lb = false := by simpa using hb21
  refine qe HF rfl (wp_seq (qa ?_))
  refine fy HF HM 0 rfl rfl rfl (v := .agg #[vB 0, vB 0, vI 0, vI 0, .slice none 0 0]) (Yl.build (vs := []) rfl (by kernel_rfl) (by kernel_rfl)) fun a HF => ?_
  refine fo HF 1 rfl rfl ?_
  refine e_sa HF HM 0 rfl rfl rfl rfl rfl si_bk rfl rfl (by simp [Value.oneCell']) ?_
  clear HM; intro w6_1 HM
  refine fp HF 2 2 [(4, vI 102), (3, vI 0)] fun a HF => ?_
  refine qb rfl (wp_ret ?_)
  exact ret3 rfl HF (.cellS (i := 0) HF HM rfl rfl si_bk rfl) (.tmp HF rfl) (.tmp HF rfl) (qas (qbg hl0 hLb (by unfold blkOf; rw [if_pos hs])) HM.below)
 have hs : qbu Lb = true := by simpa using hb21
 refine qd HF rfl (wp_seq ?_)
 refine qac HM [.blk g2 #[vB 0, vB 0, vI 0, vI 0, .slice none 0 0] 41] [0] [] fun HM HS => ?_
 refine ap HF (fun _ => HS) [0] #[true, false, false, false, false, false, false] [(27, .slice (some ⟨gA, oA, none⟩) ((lenR l).1) cp)] fun a HF => ?_
 refine ay HF HS 1 rfl rfl rfl (v := .slice (if cp = 4 then some ⟨gA, oA, none⟩ else (some ⟨gA, oA, none⟩ : Option Addr).map (·.add (4 * 1))) (6 - 4) (cp - 4)) (Yl.qlm ei_u8 (i := 4) (j := 6) rfl rfl rfl rfl (by omega) (by omega)) fun a HF => ?_
 replace HF := HF.sp 28 (.slice (some ⟨gA, oA + 4, none⟩) (6 - 4) (cp - 4)) rfl (by simp only [if_neg (show ¬ cp = 4 by omega), Option.map_some, Addr.add_mid, Nat.mul_one])
 refine ay HF HS 2 rfl rfl rfl (v := vP gA (oA + 4)) (Yl.arrayAt (k := 2) rfl rfl (by kernel_rfl) (by omega)) fun a HF => ?_
 refine ay HF HS 3 rfl rfl rfl (v := .agg #[vB (Lb.getD 4 0), vB (Lb.getD 5 0)]) (Yl.zl rfl rfl si_a2 rfl (fun _ h => qwa (k := 4) (l := Lb) (h.old hrL) (by omega))) fun a HF => ?_
 refine ay HF HS 4 rfl rfl rfl (v := .agg #[vB 113, vB 116]) (Yl.zl rfl rfl si_a2 rfl (fun _ h => qs2 hL h hB)) fun a HF => ?_
 refine ay HF HS 5 rfl rfl rfl (v := .bool (!(((Lb.getD 4 0 : Int) == (113 : Int)) && ((Lb.getD 5 0 : Int) == (116 : Int))))) (Yl.qvk rfl rfl rfl (by kernel_rfl) (by kernel_rfl)) fun a HF => ?_
 refine ap HF (fun _ => HS) [6] #[true, true, true, true, true, true, true] [(26, .bool (!(((Lb.getD 4 0 : Int) == (113 : Int)) && ((Lb.getD 5 0 : Int) == (116 : Int)))))] fun a HF => ?_
 refine ql (by kernel_rfl) ?_
 rcases HF.tf 26 rfl with ⟨hb26, HF⟩ | ⟨hb26, HF⟩
 ·
  simp only [Bool.not_eq_true', Bool.and_eq_false_iff, beq_eq_false_iff_ne] at hb26
  have hmg : ¬ (Lb.getD 4 0 = 113 ∧ Lb.getD 5 0 = 116) := by omega
  refine qe HF rfl (wp_seq (qa ?_))
  refine fy HF HM 0 rfl rfl rfl (v := .agg #[vB 0, vB 0, vI 0, vI 0, .slice none 0 0]) (Yl.build (vs := []) rfl (by kernel_rfl) (by kernel_rfl)) fun a HF => ?_
  refine fo HF 1 rfl rfl ?_
  refine e_sa HF HM 0 rfl rfl rfl rfl rfl si_bk rfl rfl (by simp [Value.oneCell']) ?_
  clear HM; intro w8_1 HM
  refine fp HF 2 2 [(4, vI 103), (3, vI 0)] fun a HF => ?_
  refine qb rfl (wp_ret ?_)
  exact ret3 rfl HF (.cellS (i := 0) HF HM rfl rfl si_bk rfl) (.tmp HF rfl) (.tmp HF rfl) (qas (qbg hl0 hLb (by unfold blkOf; rw [if_neg (by rw [hs]; decide), if_pos hmg])) HM.below)
 simp only [Bool.not_eq_false', Bool.and_eq_true, beq_iff_eq] at hb26
 have hmg : Lb.getD 4 0 = 113 ∧ Lb.getD 5 0 = 116 := by omega
 refine qd HF rfl (wp_seq (qa ?_))
 refine fp HF 1 0 [(35, .slice (some ⟨gA, oA, none⟩) ((lenR l).1) cp)] fun a HF => ?_
 refine fy HF HM 1 rfl rfl rfl (v := vP gA (oA + 6)) (Yl.indexAddr (ad := ⟨gA, oA, none⟩) (y := 6) (sz := 1) rfl rfl rfl (by omega) (by kernel_rfl)) fun a HF => ?_
 have hx111 := getD_lt hlL (k := 6) (by first | omega | (simp; omega))
 refine fy HF HM 2 rfl rfl rfl (v := vB (Lb.getD 6 0)) (Yl.qh rfl rfl (by kernel_rfl) (fun _ h => (h.old hrL).qbw (k := 6) (qaw (F := B8) (k := 6) (x := (Lb.getD 6 0)) ((getD_at 0 (k := 6) (by first | omega | (simp; omega))))))) fun a HF => ?_
 refine fp HF 2 3 [(34, .bool (((Lb.getD 6 0) : Int) != (1 : Int)))] fun a HF => ?_
 refine qb rfl ?_
 rcases HF.tf 34 rfl with ⟨hb34, HF⟩ | ⟨hb34, HF⟩
 ·
  have hd34 := bne_iff_ne.1 hb34
  refine qe HF rfl (wp_seq (qa ?_))
  refine fy HF HM 0 rfl rfl rfl (v := .agg #[vB 0, vB 0, vI 0, vI 0, .slice none 0 0]) (Yl.build (vs := []) rfl (by kernel_rfl) (by kernel_rfl)) fun a HF => ?_
  refine fo HF 1 rfl rfl ?_
  refine e_sa HF HM 0 rfl rfl rfl rfl rfl si_bk rfl rfl (by simp [Value.oneCell']) ?_
  clear HM; intro w10_1 HM
  refine fp HF 2 2 [(4, vI 104), (3, vI 0)] fun a HF => ?_
  refine qb rfl (wp_ret ?_)
  exact ret3 rfl HF (.cellS (i := 0) HF HM rfl rfl si_bk rfl) (.tmp HF rfl) (.tmp HF rfl) (qas (qbg hl0 hLb (by unfold blkOf; rw [if_neg (by rw [hs]; decide), if_neg (fun hh => hh hmg), if_pos (by omega)])) HM.below)
 have hd34 := bne_eq_false_iff_eq.1 hb34
 refine qd HF rfl (wp_seq (qa ?_))
 refine fp HF 1 0 [(41, .slice (some ⟨gA, oA, none⟩) ((lenR l).1) cp)] fun a HF => ?_
 refine fy HF HM 1 rfl rfl rfl (v := vP gA (oA + 7)) (Yl.indexAddr (ad := ⟨gA, oA, none⟩) (y := 7) (sz := 1) rfl rfl rfl (by omega) (by kernel_rfl)) fun a HF => ?_
 have hx135 := getD_lt hlL (k := 7) (by first | omega | (simp; omega))
 refine fy HF HM 2 rfl rfl rfl (v := vB (Lb.getD 7 0)) (Yl.qh rfl rfl (by kernel_rfl) (fun _ h => (h.old hrL).qbw (k := 7) (qaw (F := B8) (k := 7) (x := (Lb.getD 7 0)) ((getD_at 0 (k := 7) (by first | omega | (simp; omega))))))) fun a HF => ?_
 refine fp HF 2 3 [(45, .bool (((Lb.getD 7 0) : Int) != (1 : Int)))] fun a HF => ?_
 rcases HF.tf 45 rfl with ⟨hb45, HF⟩ | ⟨hb45, HF⟩
 ·
  have hd45 := bne_iff_ne.1 hb45
  refine fp HF 1 5 [(46, .slice (some ⟨gA, oA, none⟩) ((lenR l).1) cp)] fun a HF => ?_
  refine fy HF HM 6 rfl rfl rfl (v := vP gA (oA + 7)) (Yl.indexAddr (ad := ⟨gA, oA, none⟩) (y := 7) (sz := 1) rfl rfl rfl (by omega) (by kernel_rfl)) fun a HF => ?_
  have hx143 := getD_lt hlL (k := 7) (by first | omega | (simp; omega))
  refine fy HF HM 7 rfl rfl rfl (v := vB (Lb.getD 7 0)) (Yl.qh rfl rfl (by kernel_rfl) (fun _ h => (h.old hrL).qbw (k := 7) (qaw (F := B8) (k := 7) (x := (Lb.getD 7 0)) ((getD_at 0 (k := 7) (by first | omega | (simp; omega))))))) fun a HF => ?_
  refine fp HF 3 8 [(40, .bool (((Lb.getD 7 0) : Int) != (2 : Int)))] fun a HF => ?_
  refine qb rfl ?_
  rcases hp : qee (Lb.getD 7 0) ((Lb.take (Lb.length - 4)).drop 8) with _ | b
  ·
   rcases HF.tf 40 rfl with ⟨hb40, HF⟩ | ⟨hb40, HF⟩
   ·
    have hd40 := bne_iff_ne.1 hb40
    have hkd : Lb.getD 7 0 ≠ 1 ∧ Lb.getD 7 0 ≠ 2 := by omega
    refine qe HF rfl (wp_seq (qa ?_))
    refine fy HF HM 0 rfl rfl rfl (v := .agg #[vB 0, vB 0, vI 0, vI 0, .slice none 0 0]) (Yl.build (vs := []) rfl (by kernel_rfl) (by kernel_rfl)) fun a HF => ?_
    refine fo HF 1 rfl rfl ?_
    refine e_sa HF HM 0 rfl rfl rfl rfl rfl si_bk rfl rfl (by simp [Value.oneCell']) ?_
    clear HM; intro w12_1 HM
    refine fp HF 2 2 [(4, vI 105), (3, vI 0)] fun a HF => ?_
    refine qb rfl (wp_ret ?_)
    exact ret3 rfl HF (.cellS (i := 0) HF HM rfl rfl si_bk rfl) (.tmp HF rfl) (.tmp HF rfl) (qas (qbg hl0 hLb (by unfold blkOf; rw [if_neg (by rw [hs]; decide), if_neg (fun hh => hh hmg), if_neg (by omega), if_pos hkd])) HM.below)
   have hd40 := bne_eq_false_iff_eq.1 hb40
   have hkd : Lb.getD 7 0 = 1 ∨ Lb.getD 7 0 = 2 := by omega
   refine qd HF rfl (wp_skip ?_)
   refine qaq (fun aS wS => ∃ (cs : Array Value) (g7 : Nat), Fr aS 68 [] [(8, .bool false), (7, vP g7 0), (40, .bool false), (34, .bool false), (26, .bool false), (21, .bool false), (0, .slice (some ⟨gA, oA, none⟩) ((lenR l).1) cp), (15, .bool false), (6, vI ((lenR l).2)), (5, vI ((lenR l).1)), (4, vI 0), (3, vI 0), (2, vP g2 0)] ∧ Mem w wS [.blk g7 cs 41, .blk g2 #[vB 0, vB 0, vI 0, vI 0, .slice none 0 0] 41] ∧ (cs.size = 5) ∧ (∀ v ∈ cs.toList, v.oneCell' = true)) ?_ ?_
   ·
    refine qac HM [.blk g2 #[vB 0, vB 0, vI 0, vI 0, .slice none 0 0] 41] [0] [12] fun HM HS => ?_
    refine ap HF (fun _ => HS) [0, 3, 4] #[true, false, false, true, true, false, false, false, false, false, false, false, false, false] [(57, vI ((lenR l).1)), (56, .slice (some ⟨gA, oA, none⟩) ((lenR l).1) cp), (53, .slice (some ⟨gA, oA, none⟩) ((lenR l).1) cp)] fun a HF => ?_
    refine ay HF HS 1 rfl rfl rfl (v := vP gA (oA + 7)) (Yl.indexAddr (ad := ⟨gA, oA, none⟩) (y := 7) (sz := 1) rfl rfl rfl (by omega) (by kernel_rfl)) fun a HF => ?_
    have hx173 := getD_lt hlL (k := 7) (by first | omega | (simp; omega))
    refine ay HF HS 2 rfl rfl rfl (v := vB (Lb.getD 7 0)) (Yl.qh rfl rfl (by kernel_rfl) (fun _ h => (h.old hrL).qbw (k := 7) (qaw (F := B8) (k := 7) (x := (Lb.getD 7 0)) ((getD_at 0 (k := 7) (by first | omega | (simp; omega))))))) fun a HF => ?_
    refine zg HF (fun _ => HS) (i := 5) rfl rfl (d := 58) rfl (by decide) (by kernel_rfl) (fun _ _ _ h => h) (v := vI (IntKind.i64.wrap (((lenR l).1 : Int) - 4))) (fun _ => Yl.pure (by kernel_rfl)) fun a HF => ?_
    replace HF := HF.sp 58 (vI ((lenR l).1 - 4 : Nat)) rfl (qo (by omega) (by omega))
    refine ay HF HS 6 rfl rfl rfl (v := .slice (if cp = 8 then some ⟨gA, oA, none⟩ else (some ⟨gA, oA, none⟩ : Option Addr).map (·.add (8 * 1))) (((lenR l).1 - 4) - 8) (cp - 8)) (Yl.qlm ei_u8 (i := 8) (j := (lenR l).1 - 4) rfl rfl rfl rfl (by omega) (by omega)) fun a HF => ?_
    refine qj [7, 11] (by kernel_rfl) rfl ?_
    refine all_cons ?_ ?_
    ·refine qn HF (i := 7) rfl rfl ?_
     refine e_cl HF [vB (Lb.getD 7 0), .slice (if cp = 8 then some ⟨gA, oA, none⟩ else (some ⟨gA, oA, none⟩ : Option Addr).map (·.add (8 * 1))) (((lenR l).1 - 4) - 8) (cp - 8)] rfl rfl ((qbr (Lb.getD 7 0) hkd _ (((lenR l).1 - 4) - 8) (cp - 8) ((Lb.take (Lb.length - 4)).drop 8) B _ (hL.mem HM hB) (HM.le hB) (HM.old (by rw [hnL]; exact hrL.qln (i := 8) (j := (lenR l).1 - 4) (by omega) (by omega) (by omega))) (by omega) (by rw [List.length_drop, List.length_take]; omega) (by omega) (qa7 (qbe hlL _) _)).mono (fun _ _ h => h.none hp)) ?_
     rintro _ w60 ⟨⟨cs, rfl, hs5, h1⟩, hbw⟩
     refine ⟨_, rfl, ?_⟩
     replace HM := HM.call hbw
     clear HF; intro a HF
     refine keepS (HM.picks [0] (by decide) rfl) (fun HS => ?_)
     refine ap HF (fun _ => HS) [8, 9, 10] #[true, true, true, true, true, true, true, true, true, true, true, false, false, false] [(62, .bool false), (61, .agg cs)] fun a HF => ?_
     refine qj [11] (by kernel_rfl) rfl ?_
     refine all_cons ?_ all_nil
     refine qn HF (i := 11) rfl rfl ?_
     refine qq HF HM (cs := #[vB 0, vB 0, vI 0, vI 0, .slice none 0 0]) rfl (by kernel_rfl) rfl (by decide) ?_
     clear HF HM; intro a w7 g7 HF HM
     refine keepS (HM.picks [1] (by decide) rfl) (fun HS => ?_)
     refine qj [12] (by kernel_rfl) rfl ?_
     refine all_cons ?_ all_nil
     refine qn HF (i := 12) rfl rfl ?_
     refine e_sa HF HM 0 rfl rfl rfl rfl rfl si_bk rfl hs5 (h1) ?_
     clear HM; intro w13_12 HM
     refine noS (by kernel_rfl) ?_
     refine ap HF (pastS (by kernel_rfl)) [13] #[true, true, true, true, true, true, true, true, true, true, true, true, true, true] [(8, .bool false)] fun a HF => ?_
     refine ql (by kernel_rfl) ?_
     replace HF := HF.to [(8, .bool false), (7, vP g7 0), (40, .bool false), (34, .bool false), (26, .bool false), (21, .bool false), (0, .slice (some ⟨gA, oA, none⟩) ((lenR l).1) cp), (15, .bool false), (6, vI ((lenR l).2)), (5, vI ((lenR l).1)), (4, vI 0), (3, vI 0), (2, vP g2 0)]
     exact ⟨cs, g7, HF.sub (by kernel_rfl), HM.picks [0, 1] (by decide) rfl, hs5, h1⟩
    refine all_cons ?_ all_nil
    refine qn HF (i := 11) rfl rfl ?_
    refine qq HF HM (cs := #[vB 0, vB 0, vI 0, vI 0, .slice none 0 0]) rfl (by kernel_rfl) rfl (by decide) ?_
    clear HF HM; intro a w7 g7 HF HM
    refine keepS (HM.picks [1] (by decide) rfl) (fun HS => ?_)
    refine qj [7] (by kernel_rfl) rfl ?_
    refine all_cons ?_ all_nil
    refine qn HF (i := 7) rfl rfl ?_
    refine e_cl HF [vB (Lb.getD 7 0), .slice (if cp = 8 then some ⟨gA, oA, none⟩ else (some ⟨gA, oA, none⟩ : Option Addr).map (·.add (8 * 1))) (((lenR l).1 - 4) - 8) (cp - 8)] rfl rfl ((qbr (Lb.getD 7 0) hkd _ (((lenR l).1 - 4) - 8) (cp - 8) ((Lb.take (Lb.length - 4)).drop 8) B _ (hL.mem HM hB) (HM.le hB) (HM.old (by rw [hnL]; exact hrL.qln (i := 8) (j := (lenR l).1 - 4) (by omega) (by omega) (by omega))) (by omega) (by rw [List.length_drop, List.length_take]; omega) (by omega) (qa7 (qbe hlL _) _)).mono (fun _ _ h => h.none hp)) ?_
    rintro _ w60 ⟨⟨cs, rfl, hs5, h1⟩, hbw⟩
    refine ⟨_, rfl, ?_⟩
    replace HM := HM.call hbw
    clear HF; intro a HF
    refine keepS (HM.picks [1] (by decide) rfl) (fun HS => ?_)
    refine ap HF (fun _ => HS) [8, 9, 10] #[true, true, true, true, true, true, true, true, true, true, true, true, false, false] [(62, .bool false), (61, .agg cs)] fun a HF => ?_
    refine qj [12] (by kernel_rfl) rfl ?_
    refine all_cons ?_ all_nil
    refine qn HF (i := 12) rfl rfl ?_
    refine e_sa HF HM 0 rfl rfl rfl rfl rfl si_bk rfl hs5 (h1) ?_
    clear HM; intro w13_12 HM
    refine noS (by kernel_rfl) ?_
    refine ap HF (pastS (by kernel_rfl)) [13] #[true, true, true, true, true, true, true, true, true, true, true, true, true, true] [(8, .bool false)] fun a HF => ?_
    refine ql (by kernel_rfl) ?_
    replace HF := HF.to [(8, .bool false), (7, vP g7 0), (40, .bool false), (34, .bool false), (26, .bool false), (21, .bool false), (0, .slice (some ⟨gA, oA, none⟩) ((lenR l).1) cp), (15, .bool false), (6, vI ((lenR l).2)), (5, vI ((lenR l).1)), (4, vI 0), (3, vI 0), (2, vP g2 0)]
    exact ⟨cs, g7, HF.sub (by kernel_rfl), HM.picks [0, 1] (by decide) rfl, hs5, h1⟩
   clear HF HM; rintro a w13 ⟨cs, g7, HF, HM, hs5, h1⟩
   refine wp_seq (wp_seq (qa ?_))
   refine fp HF 2 0 [(64, .bool true)] fun a HF => ?_
   refine qb rfl (qe HF rfl (wp_seq (qa ?_)))
   refine fy HF HM 0 rfl rfl rfl (v := .agg #[vB 0, vB 0, vI 0, vI 0, .slice none 0 0]) (Yl.build (vs := []) rfl (by kernel_rfl) (by kernel_rfl)) fun a HF => ?_
   refine fo HF 1 rfl rfl ?_
   refine e_sa HF HM 1 rfl rfl rfl rfl rfl si_bk rfl rfl (by simp [Value.oneCell']) ?_
   clear HM; intro w15_1 HM
   refine fp HF 2 2 [(4, vI 106), (3, vI 0)] fun a HF => ?_
   refine qb rfl (wp_ret ?_)
   exact ret3 rfl HF (.cellS (i := 1) HF HM rfl rfl si_bk rfl) (.tmp HF rfl) (.tmp HF rfl) (qas (qbg hl0 hLb (by unfold blkOf; rw [if_neg (by rw [hs]; decide), if_neg (fun hh => hh hmg), if_neg (by omega), if_neg (by omega), hp])) HM.below)
  ·
   rcases HF.tf 40 rfl with ⟨hb40, HF⟩ | ⟨hb40, HF⟩
   ·
    have hd40 := bne_iff_ne.1 hb40
    have hkd : Lb.getD 7 0 ≠ 1 ∧ Lb.getD 7 0 ≠ 2 := by omega
    refine qe HF rfl (wp_seq (qa ?_))
    refine fy HF HM 0 rfl rfl rfl (v := .agg #[vB 0, vB 0, vI 0, vI 0, .slice none 0 0]) (Yl.build (vs := []) rfl (by kernel_rfl) (by kernel_rfl)) fun a HF => ?_
    refine fo HF 1 rfl rfl ?_
    refine e_sa HF HM 0 rfl rfl rfl rfl rfl si_bk rfl rfl (by simp [Value.oneCell']) ?_
    clear HM; intro w12_1 HM
    refine fp HF 2 2 [(4, vI 105), (3, vI 0)] fun a HF => ?_
    refine qb rfl (wp_ret ?_)
    exact ret3 rfl HF (.cellS (i := 0) HF HM rfl rfl si_bk rfl) (.tmp HF rfl) (.tmp HF rfl) (qas (qbg hl0 hLb (by unfold blkOf; rw [if_neg (by rw [hs]; decide), if_neg (fun hh => hh hmg), if_neg (by omega), if_pos hkd])) HM.below)
   have hd40 := bne_eq_false_iff_eq.1 hb40
   have hkd : Lb.getD 7 0 = 1 ∨ Lb.getD 7 0 = 2 := by omega
   refine qd HF rfl (wp_skip ?_)
   refine qaq (fun aS wS => ∃ (Ab : Option Addr) (cb : Nat) (g7 : Nat), Fr aS 68 [] [(8, .bool true), (7, vP g7 0), (40, .bool false), (34, .bool false), (26, .bool false), (21, .bool false), (0, .slice (some ⟨gA, oA, none⟩) ((lenR l).1) cp), (15, .bool false), (6, vI ((lenR l).2)), (5, vI ((lenR l).1)), (4, vI 0), (3, vI 0), (2, vP g2 0)] ∧ Mem w wS [.blk g7 (b.cells Ab cb) 41, .row (.slice Ab b.evs.length cb) b.evs.length (b.evs.flatMap evL) 45 11, .blk g2 #[vB 0, vB 0, vI 0, vI 0, .slice none 0 0] 41] ∧ (b.evs.length ≤ cb)) ?_ ?_
   ·
    refine qac HM [.blk g2 #[vB 0, vB 0, vI 0, vI 0, .slice none 0 0] 41] [0] [12] fun HM HS => ?_
    refine ap HF (fun _ => HS) [0, 3, 4] #[true, false, false, true, true, false, false, false, false, false, false, false, false, false] [(57, vI ((lenR l).1)), (56, .slice (some ⟨gA, oA, none⟩) ((lenR l).1) cp), (53, .slice (some ⟨gA, oA, none⟩) ((lenR l).1) cp)] fun a HF => ?_
    refine ay HF HS 1 rfl rfl rfl (v := vP gA (oA + 7)) (Yl.indexAddr (ad := ⟨gA, oA, none⟩) (y := 7) (sz := 1) rfl rfl rfl (by omega) (by kernel_rfl)) fun a HF => ?_
    have hx271 := getD_lt hlL (k := 7) (by first | omega | (simp; omega))
    refine ay HF HS 2 rfl rfl rfl (v := vB (Lb.getD 7 0)) (Yl.qh rfl rfl (by kernel_rfl) (fun _ h => (h.old hrL).qbw (k := 7) (qaw (F := B8) (k := 7) (x := (Lb.getD 7 0)) ((getD_at 0 (k := 7) (by first | omega | (simp; omega))))))) fun a HF => ?_
    refine zg HF (fun _ => HS) (i := 5) rfl rfl (d := 58) rfl (by decide) (by kernel_rfl) (fun _ _ _ h => h) (v := vI (IntKind.i64.wrap (((lenR l).1 : Int) - 4))) (fun _ => Yl.pure (by kernel_rfl)) fun a HF => ?_
    replace HF := HF.sp 58 (vI ((lenR l).1 - 4 : Nat)) rfl (qo (by omega) (by omega))
    refine ay HF HS 6 rfl rfl rfl (v := .slice (if cp = 8 then some ⟨gA, oA, none⟩ else (some ⟨gA, oA, none⟩ : Option Addr).map (·.add (8 * 1))) (((lenR l).1 - 4) - 8) (cp - 8)) (Yl.qlm ei_u8 (i := 8) (j := (lenR l).1 - 4) rfl rfl rfl rfl (by omega) (by omega)) fun a HF => ?_
    refine qj [7, 11] (by kernel_rfl) rfl ?_
    refine all_cons ?_ ?_
    ·refine qn HF (i := 7) rfl rfl ?_
     refine e_cl HF [vB (Lb.getD 7 0), .slice (if cp = 8 then some ⟨gA, oA, none⟩ else (some ⟨gA, oA, none⟩ : Option Addr).map (·.add (8 * 1))) (((lenR l).1 - 4) - 8) (cp - 8)] rfl rfl ((qbr (Lb.getD 7 0) hkd _ (((lenR l).1 - 4) - 8) (cp - 8) ((Lb.take (Lb.length - 4)).drop 8) B _ (hL.mem HM hB) (HM.le hB) (HM.old (by rw [hnL]; exact hrL.qln (i := 8) (j := (lenR l).1 - 4) (by omega) (by omega) (by omega))) (by omega) (by rw [List.length_drop, List.length_take]; omega) (by omega) (qa7 (qbe hlL _) _)).mono (fun _ _ h => h.some hp)) ?_
     rintro _ w60 ⟨⟨Ab, cb, rfl, ho, hcb⟩, hbw⟩
     refine ⟨_, rfl, ?_⟩
     replace HM := HM.callRow hbw ho
     clear HF; intro a HF
     refine keepS (HM.picks [1] (by decide) rfl) (fun HS => ?_)
     refine ap HF (fun _ => HS) [8, 9, 10] #[true, true, true, true, true, true, true, true, true, true, true, false, false, false] [(62, .bool true), (61, .agg (b.cells Ab cb))] fun a HF => ?_
     refine qj [11] (by kernel_rfl) rfl ?_
     refine all_cons ?_ all_nil
     refine qn HF (i := 11) rfl rfl ?_
     refine qq HF HM (cs := #[vB 0, vB 0, vI 0, vI 0, .slice none 0 0]) rfl (by kernel_rfl) rfl (by decide) ?_
     clear HF HM; intro a w7 g7 HF HM
     refine keepS (HM.picks [2] (by decide) rfl) (fun HS => ?_)
     refine qj [12] (by kernel_rfl) rfl ?_
     refine all_cons ?_ all_nil
     refine qn HF (i := 12) rfl rfl ?_
     refine e_sa HF HM 0 rfl rfl rfl rfl rfl si_bk rfl rfl (qbv _ _ _) ?_
     clear HM; intro w13_12 HM
     refine noS (by kernel_rfl) ?_
     refine ap HF (pastS (by kernel_rfl)) [13] #[true, true, true, true, true, true, true, true, true, true, true, true, true, true] [(8, .bool true)] fun a HF => ?_
     refine ql (by kernel_rfl) ?_
     replace HF := HF.to [(8, .bool true), (7, vP g7 0), (40, .bool false), (34, .bool false), (26, .bool false), (21, .bool false), (0, .slice (some ⟨gA, oA, none⟩) ((lenR l).1) cp), (15, .bool false), (6, vI ((lenR l).2)), (5, vI ((lenR l).1)), (4, vI 0), (3, vI 0), (2, vP g2 0)]
     exact ⟨Ab, cb, g7, HF.sub (by kernel_rfl), HM.picks [0, 1, 2] (by decide) rfl, hcb⟩
    refine all_cons ?_ all_nil
    refine qn HF (i := 11) rfl rfl ?_
    refine qq HF HM (cs := #[vB 0, vB 0, vI 0, vI 0, .slice none 0 0]) rfl (by kernel_rfl) rfl (by decide) ?_
    clear HF HM; intro a w7 g7 HF HM
    refine keepS (HM.picks [1] (by decide) rfl) (fun HS => ?_)
    refine qj [7] (by kernel_rfl) rfl ?_
    refine all_cons ?_ all_nil
    refine qn HF (i := 7) rfl rfl ?_
    refine e_cl HF [vB (Lb.getD 7 0), .slice (if cp = 8 then some ⟨gA, oA, none⟩ else (some ⟨gA, oA, none⟩ : Option Addr).map (·.add (8 * 1))) (((lenR l).1 - 4) - 8) (cp - 8)] rfl rfl ((qbr (Lb.getD 7 0) hkd _ (((lenR l).1 - 4) - 8) (cp - 8) ((Lb.take (Lb.length - 4)).drop 8) B _ (hL.mem HM hB) (HM.le hB) (HM.old (by rw [hnL]; exact hrL.qln (i := 8) (j := (lenR l).1 - 4) (by omega) (by omega) (by omega))) (by omega) (by rw [List.length_drop, List.length_take]; omega) (by omega) (qa7 (qbe hlL _) _)).mono (fun _ _ h => h.some hp)) ?_
    rintro _ w60 ⟨⟨Ab, cb, rfl, ho, hcb⟩, hbw⟩
    refine ⟨_, rfl, ?_⟩
    replace HM := HM.callRow hbw ho
    clear HF; intro a HF
    refine keepS (HM.picks [2] (by decide) rfl) (fun HS => ?_)
    refine ap HF (fun _ => HS) [8, 9, 10] #[true, true, true, true, true, true, true, true, true, true, true, true, false, false] [(62, .bool true), (61, .agg (b.cells Ab cb))] fun a HF => ?_
    refine qj [12] (by kernel_rfl) rfl ?_
    refine all_cons ?_ all_nil
    refine qn HF (i := 12) rfl rfl ?_
    refine e_sa HF HM 1 rfl rfl rfl rfl rfl si_bk rfl rfl (qbv _ _ _) ?_
    clear HM; intro w13_12 HM
    refine noS (by kernel_rfl) ?_
    refine ap HF (pastS (by kernel_rfl)) [13] #[true, true, true, true, true, true, true, true, true, true, true, true, true, true] [(8, .bool true)] fun a HF => ?_
    refine ql (by kernel_rfl) ?_
    replace HF := HF.to [(8, .bool true), (7, vP g7 0), (40, .bool false), (34, .bool false), (26, .bool false), (21, .bool false), (0, .slice (some ⟨gA, oA, none⟩) ((lenR l).1) cp), (15, .bool false), (6, vI ((lenR l).2)), (5, vI ((lenR l).1)), (4, vI 0), (3, vI 0), (2, vP g2 0)]
    exact ⟨Ab, cb, g7, HF.sub (by kernel_rfl), HM.picks [1, 0, 2] (by decide) rfl, hcb⟩
   clear HF HM; rintro a w13 ⟨Ab, cb, g7, HF, HM, hcb⟩
   refine wp_seq (wp_seq (qa ?_))
   refine fp HF 2 0 [(64, .bool false)] fun a HF => ?_
   refine qb rfl (qd HF rfl (wp_skip (wp_seq (qa ?_))))
   refine fy HF HM 0 rfl rfl rfl (v := .agg (b.cells Ab cb)) (Yl.zl rfl rfl si_bk rfl (fun _ h => qf (h.blk (i := 0) rfl))) fun a HF => ?_
   refine fp HF 1 1 [(67, vI ((lenR l).1))] fun a HF => ?_
   refine fo HF 2 rfl rfl ?_
   refine e_sa HF HM 2 rfl rfl rfl rfl rfl si_bk rfl rfl (qbv _ _ _) ?_
   clear HM; intro w16_2 HM
   refine fp HF 2 3 [(4, vI 0), (3, vI ((lenR l).1))] fun a HF => ?_
   refine qb rfl (wp_ret ?_)
   exact ret3 rfl HF (.cellS (i := 2) HF HM rfl rfl si_bk rfl) (.tmp HF rfl) (.tmp HF rfl) (qif (qig (e := 0) hl0 hLb (by unfold blkOf; rw [if_neg (by rw [hs]; decide), if_neg (fun hh => hh hmg), if_neg (by omega), if_neg (by omega), hp])) (HM.own (i := 1) rfl) hcb HM.below)
 have hd45 := bne_eq_false_iff_eq.1 hb45
 have hkd : Lb.getD 7 0 = 1 ∨ Lb.getD 7 0 = 2 := by omega
 refine fp HF 6 5 [(40, .bool false)] fun a HF => ?_
 refine qb rfl ?_
 rcases hp : qee (Lb.getD 7 0) ((Lb.take (Lb.length - 4)).drop 8) with _ | b
 ·
  refine qd HF rfl (wp_skip ?_)
  refine qaq (fun aS wS => ∃ (cs : Array Value) (g7 : Nat), Fr aS 68 [] [(8, .bool false), (7, vP g7 0), (40, .bool false), (34, .bool false), (26, .bool false), (21, .bool false), (0, .slice (some ⟨gA, oA, none⟩) ((lenR l).1) cp), (15, .bool false), (6, vI ((lenR l).2)), (5, vI ((lenR l).1)), (4, vI 0), (3, vI 0), (2, vP g2 0)] ∧ Mem w wS [.blk g7 cs 41, .blk g2 #[vB 0, vB 0, vI 0, vI 0, .slice none 0 0] 41] ∧ (cs.size = 5) ∧ (∀ v ∈ cs.toList, v.oneCell' = true)) ?_ ?_
  ·
   refine qac HM [.blk g2 #[vB 0, vB 0, vI 0, vI 0, .slice none 0 0] 41] [0] [12] fun HM HS => ?_
   refine ap HF (fun _ => HS) [0, 3, 4] #[true, false, false, true, true, false, false, false, false, false, false, false, false, false] [(57, vI ((lenR l).1)), (56, .slice (some ⟨gA, oA, none⟩) ((lenR l).1) cp), (53, .slice (some ⟨gA, oA, none⟩) ((lenR l).1) cp)] fun a HF => ?_
   refine ay HF HS 1 rfl rfl rfl (v := vP gA (oA + 7)) (Yl.indexAddr (ad := ⟨gA, oA, none⟩) (y := 7) (sz := 1) rfl rfl rfl (by omega) (by kernel_rfl)) fun a HF => ?_
   have hx359 := getD_lt hlL (k := 7) (by first | omega | (simp; omega))
   refine ay HF HS 2 rfl rfl rfl (v := vB (Lb.getD 7 0)) (Yl.qh rfl rfl (by kernel_rfl) (fun _ h => (h.old hrL).qbw (k := 7) (qaw (F := B8) (k := 7) (x := (Lb.getD 7 0)) ((getD_at 0 (k := 7) (by first | omega | (simp; omega))))))) fun a HF => ?_
   refine zg HF (fun _ => HS) (i := 5) rfl rfl (d := 58) rfl (by decide) (by kernel_rfl) (fun _ _ _ h => h) (v := vI (IntKind.i64.wrap (((lenR l).1 : Int) - 4))) (fun _ => Yl.pure (by kernel_rfl)) fun a HF => ?_
   replace HF := HF.sp 58 (vI ((lenR l).1 - 4 : Nat)) rfl (qo (by omega) (by omega))
   refine ay HF HS 6 rfl rfl rfl (v := .slice (if cp = 8 then some ⟨gA, oA, none⟩ else (some ⟨gA, oA, none⟩ : Option Addr).map (·.add (8 * 1))) (((lenR l).1 - 4) - 8) (cp - 8)) (Yl.qlm ei_u8 (i := 8) (j := (lenR l).1 - 4) rfl rfl rfl rfl (by omega) (by omega)) fun a HF => ?_
   refine qj [7, 11] (by kernel_rfl) rfl ?_
   refine all_cons ?_ ?_
   ·refine qn HF (i := 7) rfl rfl ?_
    refine e_cl HF [vB (Lb.getD 7 0), .slice (if cp = 8 then some ⟨gA, oA, none⟩ else (some ⟨gA, oA, none⟩ : Option Addr).map (·.add (8 * 1))) (((lenR l).1 - 4) - 8) (cp - 8)] rfl rfl ((qbr (Lb.getD 7 0) hkd _ (((lenR l).1 - 4) - 8) (cp - 8) ((Lb.take (Lb.length - 4)).drop 8) B _ (hL.mem HM hB) (HM.le hB) (HM.old (by rw [hnL]; exact hrL.qln (i := 8) (j := (lenR l).1 - 4) (by omega) (by omega) (by omega))) (by omega) (by rw [List.length_drop, List.length_take]; omega) (by omega) (qa7 (qbe hlL _) _)).mono (fun _ _ h => h.none hp)) ?_
    rintro _ w60 ⟨⟨cs, rfl, hs5, h1⟩, hbw⟩
    refine ⟨_, rfl, ?_⟩
    replace HM := HM.call hbw
    clear HF; intro a HF
    refine keepS (HM.picks [0] (by decide) rfl) (fun HS => ?_)
    refine ap HF (fun _ => HS) [8, 9, 10] #[true, true, true, true, true, true, true, true, true, true, true, false, false, false] [(62, .bool false), (61, .agg cs)] fun a HF => ?_
    refine qj [11] (by kernel_rfl) rfl ?_
    refine all_cons ?_ all_nil
    refine qn HF (i := 11) rfl rfl ?_
    refine qq HF HM (cs := #[vB 0, vB 0, vI 0, vI 0, .slice none 0 0]) rfl (by kernel_rfl) rfl (by decide) ?_
    clear HF HM; intro a w7 g7 HF HM
    refine keepS (HM.picks [1] (by decide) rfl) (fun HS => ?_)
    refine qj [12] (by kernel_rfl) rfl ?_
    refine all_cons ?_ all_nil
    refine qn HF (i := 12) rfl rfl ?_
    refine e_sa HF HM 0 rfl rfl rfl rfl rfl si_bk rfl hs5 (h1) ?_
    clear HM; intro w13_12 HM
    refine noS (by kernel_rfl) ?_
    refine ap HF (pastS (by kernel_rfl)) [13] #[true, true, true, true, true, true, true, true, true, true, true, true, true, true] [(8, .bool false)] fun a HF => ?_
    refine ql (by kernel_rfl) ?_
    exact ⟨cs, g7, HF.sub (by kernel_rfl), HM.picks [0, 1] (by decide) rfl, hs5, h1⟩
   refine all_cons ?_ all_nil
   refine qn HF (i := 11) rfl rfl ?_
   refine qq HF HM (cs := #[vB 0, vB 0, vI 0, vI 0, .slice none 0 0]) rfl (by kernel_rfl) rfl (by decide) ?_
   clear HF HM; intro a w7 g7 HF HM
   refine keepS (HM.picks [1] (by decide) rfl) (fun HS => ?_)
   refine qj [7] (by kernel_rfl) rfl ?_
   refine all_cons ?_ all_nil
   refine qn HF (i := 7) rfl rfl ?_
   refine e_cl HF [vB (Lb.getD 7 0), .slice (if cp = 8 then some ⟨gA, oA, none⟩ else (some ⟨gA, oA, none⟩ : Option Addr).map (·.add (8 * 1))) (((lenR l).1 - 4) - 8) (cp - 8)] rfl rfl ((qbr (Lb.getD 7 0) hkd _ (((lenR l).1 - 4) - 8) (cp - 8) ((Lb.take (Lb.length - 4)).drop 8) B _ (hL.mem HM hB) (HM.le hB) (HM.old (by rw [hnL]; exact hrL.qln (i := 8) (j := (lenR l).1 - 4) (by omega) (by omega) (by omega))) (by omega) (by rw [List.length_drop, List.length_take]; omega) (by omega) (qa7 (qbe hlL _) _)).mono (fun _ _ h => h.none hp)) ?_
   rintro _ w60 ⟨⟨cs, rfl, hs5, h1⟩, hbw⟩
   refine ⟨_, rfl, ?_⟩
   replace HM := HM.call hbw
   clear HF; intro a HF
   refine keepS (HM.picks [1] (by decide) rfl) (fun HS => ?_)
   refine ap HF (fun _ => HS) [8, 9, 10] #[true, true, true, true, true, true, true, true, true, true, true, true, false, false] [(62, .bool false), (61, .agg cs)] fun a HF => ?_
   refine qj [12] (by kernel_rfl) rfl ?_
   refine all_cons ?_ all_nil
   refine qn HF (i := 12) rfl rfl ?_
   refine e_sa HF HM 0 rfl rfl rfl rfl rfl si_bk rfl hs5 (h1) ?_
   clear HM; intro w13_12 HM
   refine noS (by kernel_rfl) ?_
   refine ap HF (pastS (by kernel_rfl)) [13] #[true, true, true, true, true, true, true, true, true, true, true, true, true, true] [(8, .bool false)] fun a HF => ?_
   refine ql (by kernel_rfl) ?_
   exact ⟨cs, g7, HF.sub (by kernel_rfl), HM.picks [0, 1] (by decide) rfl, hs5, h1⟩
  clear HF HM; rintro a w13 ⟨cs, g7, HF, HM, hs5, h1⟩
  refine wp_seq (wp_seq (qa ?_))
  refine fp HF 2 0 [(64, .bool true)] fun a HF => ?_
  refine qb rfl (qe HF rfl (wp_seq (qa ?_)))
  refine fy HF HM 0 rfl rfl rfl (v := .agg #[vB 0, vB 0, vI 0, vI 0, .slice none 0 0]) (Yl.build (vs := []) rfl (by kernel_rfl) (by kernel_rfl)) fun a HF => ?_
  refine fo HF 1 rfl rfl ?_
  refine e_sa HF HM 1 rfl rfl rfl rfl rfl si_bk rfl rfl (by simp [Value.oneCell']) ?_
  clear HM; intro w15_1 HM
  refine fp HF 2 2 [(4, vI 106), (3, vI 0)] fun a HF => ?_
  refine qb rfl (wp_ret ?_)
  exact ret3 rfl HF (.cellS (i := 1) HF HM rfl rfl si_bk rfl) (.tmp HF rfl) (.tmp HF rfl) (qas (qbg hl0 hLb (by unfold blkOf; rw [if_neg (by rw [hs]; decide), if_neg (fun hh => hh hmg), if_neg (by omega), if_neg (by omega), hp])) HM.below)
 ·
  refine qd HF rfl (wp_skip ?_)
  refine qaq (fun aS wS => ∃ (Ab : Option Addr) (cb : Nat) (g7 : Nat), Fr aS 68 [] [(8, .bool true), (7, vP g7 0), (40, .bool false), (34, .bool false), (26, .bool false), (21, .bool false), (0, .slice (some ⟨gA, oA, none⟩) ((lenR l).1) cp), (15, .bool false), (6, vI ((lenR l).2)), (5, vI ((lenR l).1)), (4, vI 0), (3, vI 0), (2, vP g2 0)] ∧ Mem w wS [.blk g7 (b.cells Ab cb) 41, .row (.slice Ab b.evs.length cb) b.evs.length (b.evs.flatMap evL) 45 11, .blk g2 #[vB 0, vB 0, vI 0, vI 0, .slice none 0 0] 41] ∧ (b.evs.length ≤ cb)) ?_ ?_
  ·
   refine qac HM [.blk g2 #[vB 0, vB 0, vI 0, vI 0, .slice none 0 0] 41] [0] [12] fun HM HS => ?_
   refine ap HF (fun _ => HS) [0, 3, 4] #[true, false, false, true, true, false, false, false, false, false, false, false, false, false] [(57, vI ((lenR l).1)), (56, .slice (some ⟨gA, oA, none⟩) ((lenR l).1) cp), (53, .slice (some ⟨gA, oA, none⟩) ((lenR l).1) cp)] fun a HF => ?_
   refine ay HF HS 1 rfl rfl rfl (v := vP gA (oA + 7)) (Yl.indexAddr (ad := ⟨gA, oA, none⟩) (y := 7) (sz := 1) rfl rfl rfl (by omega) (by kernel_rfl)) fun a HF => ?_
   have hx438 := getD_lt hlL (k := 7) (by first | omega | (simp; omega))
   refine ay HF HS 2 rfl rfl rfl (v := vB (Lb.getD 7 0)) (Yl.qh rfl rfl (by kernel_rfl) (fun _ h => (h.old hrL).qbw (k := 7) (qaw (F := B8) (k := 7) (x := (Lb.getD 7 0)) ((getD_at 0 (k := 7) (by first | omega | (simp; omega))))))) fun a HF => ?_
   refine zg HF (fun _ => HS) (i := 5) rfl rfl (d := 58) rfl (by decide) (by kernel_rfl) (fun _ _ _ h => h) (v := vI (IntKind.i64.wrap (((lenR l).1 : Int) - 4))) (fun _ => Yl.pure (by kernel_rfl)) fun a HF => ?_
   replace HF := HF.sp 58 (vI ((lenR l).1 - 4 : Nat)) rfl (qo (by omega) (by omega))
   refine ay HF HS 6 rfl rfl rfl (v := .slice (if cp = 8 then some ⟨gA, oA, none⟩ else (some ⟨gA, oA, none⟩ : Option Addr).map (·.add (8 * 1))) (((lenR l).1 - 4) - 8) (cp - 8)) (Yl.qlm ei_u8 (i := 8) (j := (lenR l).1 - 4) rfl rfl rfl rfl (by omega) (by omega)) fun a HF => ?_
   refine qj [7, 11] (by kernel_rfl) rfl ?_
   refine all_cons ?_ ?_
   ·refine qn HF (i := 7) rfl rfl ?_
    refine e_cl HF [vB (Lb.getD 7 0), .slice (if cp = 8 then some ⟨gA, oA, none⟩ else (some ⟨gA, oA, none⟩ : Option Addr).map (·.add (8 * 1))) (((lenR l).1 - 4) - 8) (cp - 8)] rfl rfl ((qbr (Lb.getD 7 0) hkd _ (((lenR l).1 - 4) - 8) (cp - 8) ((Lb.take (Lb.length - 4)).drop 8) B _ (hL.mem HM hB) (HM.le hB) (HM.old (by rw [hnL]; exact hrL.qln (i := 8) (j := (lenR l).1 - 4) (by omega) (by omega) (by omega))) (by omega) (by rw [List.length_drop, List.length_take]; omega) (by omega) (qa7 (qbe hlL _) _)).mono (fun _ _ h => h.some hp)) ?_
    rintro _ w60 ⟨⟨Ab, cb, rfl, ho, hcb⟩, hbw⟩
    refine ⟨_, rfl, ?_⟩
    replace HM := HM.callRow hbw ho
    clear HF; intro a HF
    refine keepS (HM.picks [1] (by decide) rfl) (fun HS => ?_)
    refine ap HF (fun _ => HS) [8, 9, 10] #[true, true, true, true, true, true, true, true, true, true, true, false, false, false] [(62, .bool true), (61, .agg (b.cells Ab cb))] fun a HF => ?_
    refine qj [11] (by kernel_rfl) rfl ?_
    refine all_cons ?_ all_nil
    refine qn HF (i := 11) rfl rfl ?_
    refine qq HF HM (cs := #[vB 0, vB 0, vI 0, vI 0, .slice none 0 0]) rfl (by kernel_rfl) rfl (by decide) ?_
    clear HF HM; intro a w7 g7 HF HM
    refine keepS (HM.picks [2] (by decide) rfl) (fun HS => ?_)
    refine qj [12] (by kernel_rfl) rfl ?_
    refine all_cons ?_ all_nil
    refine qn HF (i := 12) rfl rfl ?_
    refine e_sa HF HM 0 rfl rfl rfl rfl rfl si_bk rfl rfl (qbv _ _ _) ?_
    clear HM; intro w13_12 HM
    refine noS (by kernel_rfl) ?_
    refine ap HF (pastS (by kernel_rfl)) [13] #[true, true, true, true, true, true, true, true, true, true, true, true, true, true] [(8, .bool true)] fun a HF => ?_
    refine ql (by kernel_rfl) ?_
    exact ⟨Ab, cb, g7, HF.sub (by kernel_rfl), HM.picks [0, 1, 2] (by decide) rfl, hcb⟩
   refine all_cons ?_ all_nil
   refine qn HF (i := 11) rfl rfl ?_
   refine qq HF HM (cs := #[vB 0, vB 0, vI 0, vI 0, .slice none 0 0]) rfl (by kernel_rfl) rfl (by decide) ?_
   clear HF HM; intro a w7 g7 HF HM
   refine keepS (HM.picks [1] (by decide) rfl) (fun HS => ?_)
   refine qj [7] (by kernel_rfl) rfl ?_
   refine all_cons ?_ all_nil
   refine qn HF (i := 7) rfl rfl ?_
   refine e_cl HF [vB (Lb.getD 7 0), .slice (if cp = 8 then some ⟨gA, oA, none⟩ else (some ⟨gA, oA, none⟩ : Option Addr).map (·.add (8 * 1))) (((lenR l).1 - 4) - 8) (cp - 8)] rfl rfl ((qbr (Lb.getD 7 0) hkd _ (((lenR l).1 - 4) - 8) (cp - 8) ((Lb.take (Lb.length - 4)).drop 8) B _ (hL.mem HM hB) (HM.le hB) (HM.old (by rw [hnL]; exact hrL.qln (i := 8) (j := (lenR l).1 - 4) (by omega) (by omega) (by omega))) (by omega) (by rw [List.length_drop, List.length_take]; omega) (by omega) (qa7 (qbe hlL _) _)).mono (fun _ _ h => h.some hp)) ?_
   rintro _ w60 ⟨⟨Ab, cb, rfl, ho, hcb⟩, hbw⟩
   refine ⟨_, rfl, ?_⟩
   replace HM := HM.callRow hbw ho
   clear HF; intro a HF
   refine keepS (HM.picks [2] (by decide) rfl) (fun HS => ?_)
   refine ap HF (fun _ => HS) [8, 9, 10] #[true, true, true, true, true, true, true, true, true, true, true, true, false, false] [(62, .bool true), (61, .agg (b.cells Ab cb))] fun a HF => ?_
   refine qj [12] (by kernel_rfl) rfl ?_
   refine all_cons ?_ all_nil
   refine qn HF (i := 12) rfl rfl ?_
   refine e_sa HF HM 1 rfl rfl rfl rfl rfl si_bk rfl rfl (qbv _ _ _) ?_
   clear HM; intro w13_12 HM
   refine noS (by kernel_rfl) ?_
   refine ap HF (pastS (by kernel_rfl)) [13] #[true, true, true, true, true, true, true, true, true, true, true, true, true, true] [(8, .bool true)] fun a HF => ?_
   refine ql (by kernel_rfl) ?_
   exact ⟨Ab, cb, g7, HF.sub (by kernel_rfl), HM.picks [1, 0, 2] (by decide) rfl, hcb⟩
  clear HF HM; rintro a w13 ⟨Ab, cb, g7, HF, HM, hcb⟩
  refine wp_seq (wp_seq (qa ?_))
  refine fp HF 2 0 [(64, .bool false)] fun a HF => ?_
  refine qb rfl (qd HF rfl (wp_skip (wp_seq (qa ?_))))
  refine fy HF HM 0 rfl rfl rfl (v := .agg (b.cells Ab cb)) (Yl.zl rfl rfl si_bk rfl (fun _ h => qf (h.blk (i := 0) rfl))) fun a HF => ?_
  refine fp HF 1 1 [(67, vI ((lenR l).1))] fun a HF => ?_
  refine fo HF 2 rfl rfl ?_
  refine e_sa HF HM 2 rfl rfl rfl rfl rfl si_bk rfl rfl (qbv _ _ _) ?_
  clear HM; intro w16_2 HM
  refine fp HF 2 3 [(4, vI 0), (3, vI ((lenR l).1))] fun a HF => ?_
  refine qb rfl (wp_ret ?_)
  exact ret3 rfl HF (.cellS (i := 2) HF HM rfl rfl si_bk rfl) (.tmp HF rfl) (.tmp HF rfl) (qif (qig (e := 0) hl0 hLb (by unfold blkOf; rw [if_neg (by rw [hs]; decide), if_neg (fun hh => hh hmg), if_neg (by omega), if_neg (by omega), hp])) (HM.own (i := 1) rfl) hcb HM.below)
theorem qar.as {w w' : World} {er er' : Nat} {R R' : List Nat} {r : Ending} (h : qar w er R r w') (h1 : er = er') (h2 : R = R') : qar w er' R' r w' := by subst h1; subst h2; exact h
theorem qq4 (b : Bk) (hok : b.Ok) (A : Option Addr) (c B : Nat) (w : World) (hL : LaidX B w) (hB : B ≤ w.heap.size) (hr : Rd w w.heap.size 11 A b.evs.length (b.evs.flatMap evL)) (hn : b.evs.length ≤ 1000000) {er : Nat} {R : List Nat} (h1 : b.err = er) (h2 : b.out = R) : Calls Tryd.prog 24 #[.agg (b.cells A c)] w (qar w er R) :=
 (qih b hok A c B w hL hB hr hn).mono fun _ _ h => h.as h1 h2
theorem qq5 (b : Bk) (hok : b.Ok) (A : Option Addr) (c B : Nat) (w : World) (hL : LaidX B w) (hB : B ≤ w.heap.size) (hr : Rd w w.heap.size 11 A b.evs.length (b.evs.flatMap evL)) (hn : b.evs.length ≤ 1000000) {er : Nat} (h1 : b.err = er) : Calls Tryd.prog 13 #[.agg (b.cells A c)] w (Is w (.int .i64 (er : Int))) :=
 (qoi b hok A c B w hL hB hr hn).mono fun _ _ h => by rw [h1] at h; exact h
theorem qjk (A : Option Addr) (n cp : Nat) (l : List Nat) (B : Nat) (w : World) (hL : LaidX B w) (hB : B ≤ w.heap.size) (hr : Rd w w.heap.size 1 A n (l.map B8)) (hc : n ≤ cp) (hln : l.length = n) (hn : n ≤ 9223372036854775807) (hl : ∀ b ∈ l, b < 256) {b : Bk} {m er : Nat} (h : readB l = (b, m, er)) :
  Calls Tryd.prog 47 #[.slice A n cp] w fun r w' => (∃ A c, r = .returned (.tuple #[.agg (b.cells A c), .int .i64 (m : Int), .int .i64 (er : Int)]) ∧ w'.ownsRow w.heap.size 45 11 (.slice A b.evs.length c) b.evs.length (b.evs.flatMap evL) ∧ b.evs.length ≤ c) ∧ Below w.heap.size w w' :=
 (qq1 A n cp l B w hL hB hr hc hln hn hl).mono fun _ _ hh => by rw [h] at hh; exact hh
def tickE : Ev := { Ev.zero with seq := 5, time := 340, cpu := 2, kind := 5, ticks := 40, got := 7 }
def awX : List Nat := [13, 0, 0, 0, 113, 116, 1, 2, 7, 91, 144, 57, 154]
theorem qwb : tickE.Ok := ⟨⟨by decide, by decide⟩, ⟨by decide, by decide⟩, by decide, by decide, ⟨by decide, by decide⟩, ⟨by decide, by decide⟩, ⟨by decide, by decide⟩, ⟨by decide, by decide⟩, ⟨by decide, by decide⟩, by decide, ⟨by decide, by decide⟩⟩
theorem qud : ∀ b ∈ awX, b < 256 := by decide
def atOf (b : Bs) (l : List Ev) : Nat → Bs
 | 0 => b
 | k + 1 => (l.getD k Ev.zero).at
theorem qkl : ∀ (l : List Ev) (b : Bs) (k : Nat), k < l.length → recs b (l.take (k + 1)) = recs b (l.take k) ++ zn (atOf b l k) (l.getD k Ev.zero)
 | [], _, _, h => by simp at h
 | e :: r, b, 0, _ => by simp [recs, atOf]
 | e :: r, b, k + 1, h => by
  have h' : k < r.length := by simpa using h
  have ih := qkl r e.at k h'
  rw [List.take_succ_cons, List.take_succ_cons, recs, recs, ih, List.append_assoc]
  congr 2
  cases k with
  | zero => rfl
  | succ k => rfl
theorem qkm {cpu : Nat} : ∀ (l : List Ev) (p : Option Ev) (b : Bs) (k : Nat), Chain cpu p b l → k < l.length → Fit (atOf b l k) (l.getD k Ev.zero)
 | [], _, _, _, _, h => by simp at h
 | e :: r, p, b, 0, hc, _ => hc.1
 | e :: r, p, b, k + 1, hc, h => by
  have h' : k < r.length := by simpa using h
  have ih := qkm r (some e) e.at k hc.2.2.2 h'
  cases k with
  | zero => exact ih
  | succ k => exact ih
theorem qu6 {b : Bs} {e : Ev} (h : Fit b e) : qx b e = 0 ∧ zy b e = zn b e := by
 have h1 : qx b e = 0 := by
  unfold qx
  rw [if_neg (by have := h.check; omega), if_pos ⟨h.right, h.behind⟩]
 exact ⟨h1, by unfold zy; rw [if_pos h1]⟩
def Bk.atK (b : Bk) (k : Nat) : Bs := atOf b.base b.evs k
def Bk.sz (b : Bk) (k : Nat) : Nat := 12 + (vbytes b.cpu).length + (vbytes b.lost.toNat).length + (vbytes b.base.seq.toNat).length + (vbytes b.base.time.toNat).length + (recs b.base (b.evs.take k)).length
def Bk.big (b : Bk) (k : Nat) : Bool := decide (4096 < b.sz k + (vbytes k).length)
def Bk.qeb (b : Bk) : Nat := ((List.range b.evs.length).find? fun i => b.big (i + 1)).getD b.evs.length
def Bk.fill (b : Bk) : Nat × Nat := if b.fits = false then (0, 107) else (b.qeb, 0)
theorem sz_le (b : Bk) (k : Nat) : b.sz k ≤ 52 + 61 * k := by
 unfold Bk.sz
 have h1 := qk b.cpu
 have h2 := qk b.lost.toNat
 have h4 := qk b.base.seq.toNat
 have h5 := qk b.base.time.toNat
 have h6 := qe5 (b.evs.take k) b.base
 rw [List.length_take] at h6
 have : min k b.evs.length ≤ k := Nat.min_le_left _ _
 have h7 : 61 * min k b.evs.length ≤ 61 * k := Nat.mul_le_mul_left _ this
 omega
theorem qu7 (b : Bk) : b.sz 0 = 8 + ([b.cpu, b.lost.toNat, b.base.seq.toNat, b.base.time.toNat].flatMap vbytes).length + 4 := by
 unfold Bk.sz
 simp [recs]
 omega
theorem qq7 {b : Bk} {k : Nat} (h : k < b.evs.length) : b.sz (k + 1) = b.sz k + (zn (b.atK k) (b.evs.getD k Ev.zero)).length := by
 unfold Bk.sz Bk.atK
 rw [qkl _ _ _ h, List.length_append]
 omega
theorem qnf {b : Bk} {k : Nat} (hk : k < b.evs.length) (hno : ∀ i, i < k → b.big (i + 1) = false) (h : b.big (k + 1) = true) : b.qeb = k := by
 unfold Bk.qeb
 have : (List.range b.evs.length).find? (fun i => b.big (i + 1)) = some k := by
  rw [List.find?_eq_some_iff_append]
  refine ⟨h, List.range k, List.range' (k + 1) (b.evs.length - k - 1), ?_, ?_⟩
  ·rw [List.range_eq_range', List.range_eq_range']
   have e1 : b.evs.length = k + (b.evs.length - k) := by omega
   have e2 : b.evs.length - k = (b.evs.length - k - 1) + 1 := by omega
   conv => lhs; rw [e1, ← List.range'_append_1, e2, List.range'_succ]
   simp
  ·intro i hi
   have := hno i (List.mem_range.1 hi)
   simp [this]
 rw [this]
 rfl
theorem qg5 {b : Bk} (hno : ∀ i, i < b.evs.length → b.big (i + 1) = false) : b.qeb = b.evs.length := by
 unfold Bk.qeb
 have : (List.range b.evs.length).find? (fun i => b.big (i + 1)) = none := by
  rw [List.find?_eq_none]
  intro i hi
  have := hno i (List.mem_range.1 hi)
  simp [this]
 rw [this]
 rfl
theorem qjl {w w' : World} {b : Bk} {n e : Nat} (h : b.fill = (n, e)) (hb : Below w.heap.size w w') : Is w (.tuple #[.int .i64 (b.fill.1 : Int), .int .i64 (b.fill.2 : Int)]) (.returned (.tuple #[.int .i64 (n : Int), .int .i64 (e : Int)])) w' := by rw [h]; exact ⟨rfl, hb⟩
theorem qrv (b : Bk) (hok : b.Ok) (A : Option Addr) (c B : Nat) (w : World) (hL : LaidX B w) (hB : B ≤ w.heap.size) (hr : Rd w w.heap.size 11 A b.evs.length (b.evs.flatMap evL)) (hn : b.evs.length ≤ 1000000) :
    Calls Tryd.prog 38 #[.agg (b.cells A c)] w (Is w (.tuple #[.int .i64 (b.fill.1 : Int), .int .i64 (b.fill.2 : Int)])) := by
 refine qg (vs := [.agg (b.cells A c)]) Tryd.func38 rfl rfl (by kernel_rfl) (σ0 := [(0, .agg (b.cells A c))]) rfl ?_
 intro a HF
 have HM := Mem.start w
 refine wp_seq (qa ?_)
 refine fo HF 0 rfl rfl ?_
 refine e_box HF HM (cs := (b.cells A c)) rfl rfl rfl rfl (by decide) ?_
 clear HF HM; intro a w1 g1 HF HM
 refine fp HF 2 1 [(3, vI 0), (2, vI 0)] fun a HF => ?_
 refine qb rfl (wp_seq (wp_seq (qa ?_)))
 refine fy HF HM 0 rfl rfl rfl (v := .agg (b.cells A c)) (Yl.zl rfl rfl si_bk rfl (fun _ h => qf (h.blk (i := 0) rfl))) fun a HF => ?_
 refine fo HF 1 rfl rfl ?_
 refine e_is HF HM [.agg (b.cells A c)] (.bool b.fits) rfl rfl (qd3 b hok A c B _ (hL.mem HM hB) (HM.le hB) (HM.old hr) hn) fun w11 hbw HM a HF => ?_
 refine fp HF 1 2 [(12, .bool (!b.fits))] fun a HF => ?_
 refine qb rfl ?_
 rcases HF.tf 12 rfl with ⟨hb12, HF⟩ | ⟨hb12, HF⟩
 ·
  have hf : b.fits = false := by simpa using hb12
  refine qe HF rfl (wp_seq (qa ?_))
  refine fp HF 2 0 [(3, vI 107), (2, vI 0)] fun a HF => ?_
  refine qb rfl (wp_ret ?_)
  exact ret2 rfl HF (.tmp HF rfl) (.tmp HF rfl) (qjl (by unfold Bk.fill; rw [if_pos hf]) HM.below)
 have hf : b.fits = true := by simpa using hb12
 refine qd HF rfl (wp_skip (wp_seq (wp_seq (qa ?_))))
 refine fp HF 1 0 [(13, vP g1 4)] fun a HF => ?_
 refine fy HF HM 1 rfl rfl rfl (v := .slice A b.evs.length c) (Yl.qh rfl rfl (by kernel_rfl) (fun _ h => h.cell (i := 0) rfl (rfl))) fun a HF => ?_
 refine fy HF HM 2 rfl rfl rfl (Yl.len rfl rfl (by kernel_rfl)) fun a HF => ?_
 refine fp HF 1 3 [(16, .bool ((b.evs.length : Int) == (0 : Int)))] fun a HF => ?_
 refine qb rfl ?_
 rcases HF.tf 16 rfl with ⟨hb16, HF⟩ | ⟨hb16, HF⟩
 ·
  have hd16 := eq_of_beq hb16
  refine qe HF rfl (wp_seq (qa ?_))
  refine fp HF 2 0 [(3, vI 0), (2, vI 0)] fun a HF => ?_
  refine qb rfl (wp_ret ?_)
  exact ret2 rfl HF (.tmp HF rfl) (.tmp HF rfl) (qjl (by unfold Bk.fill; rw [if_neg (by rw [hf]; decide), qg5 (fun i hi => absurd hi (by omega)), show b.evs.length = 0 by omega]) HM.below)
 have hd16 := ne_of_beq_false hb16
 have hk : b.kind ≠ 2 := fun h2 => by have := qg1 hf h2; omega
 obtain ⟨m0, m1, m2, m3, m4⟩ := qg0 hf hk
 obtain ⟨q1, q2, q3, q4⟩ := qjh hok hf hk (by omega)
 obtain ⟨e0, r0, g0⟩ := qgh hok (qd2 hf hk).2 (by omega)
 have hch := g0.chain
 rw [← g0.base] at hch
 refine qd HF rfl (wp_skip (wp_seq (qa ?_)))
 refine fy HF HM 0 rfl rfl rfl (v := .agg (b.cells A c)) (Yl.zl rfl rfl si_bk rfl (fun _ h => qf (h.blk (i := 0) rfl))) fun a HF => ?_
 refine fo HF 1 rfl rfl ?_
 refine e_is HF HM [.agg (b.cells A c)] (.agg b.base.cells) rfl rfl (qnc b A c _ (HM.old hr) (by omega)) fun w18 hbw HM a HF => ?_
 refine fo HF 2 rfl rfl ?_
 refine qq HF HM (cs := #[vI 0, vI 0]) rfl (by kernel_rfl) rfl (by decide) ?_
 clear HF HM; intro a w4 g4 HF HM
 refine fo HF 3 rfl rfl ?_
 refine e_sa HF HM 0 rfl rfl rfl rfl rfl ⟨(by kernel_rfl), (by kernel_rfl)⟩ rfl rfl (qpr b.base) ?_
 clear HM; intro w5_3 HM
 refine qb rfl (wp_seq (qa ?_))
 refine fp HF 1 0 [(19, vP g1 1)] fun a HF => ?_
 refine fy HF HM 1 rfl rfl rfl (v := vB b.cpu) (Yl.qh rfl rfl (by kernel_rfl) (fun _ h => h.cell (i := 1) rfl (rfl))) fun a HF => ?_
 refine fp HF 1 2 [(21, vQ (IntKind.u64.wrap (b.cpu : Int)))] fun a HF => ?_
 replace HF := HF.sp 21 (vQ b.cpu) rfl (qaa rfl (by omega))
 refine fp HF 1 3 [(22, vP g1 2)] fun a HF => ?_
 refine fy HF HM 4 rfl rfl rfl (v := vI b.lost) (Yl.qh rfl rfl (by kernel_rfl) (fun _ h => h.cell (i := 1) rfl (rfl))) fun a HF => ?_
 refine fp HF 1 5 [(24, vQ (IntKind.u64.wrap b.lost))] fun a HF => ?_
 replace HF := HF.sp 24 (vQ b.lost.toNat) rfl (qaa (by omega) (by omega))
 refine fp HF 1 6 [(25, vP g4 0)] fun a HF => ?_
 refine fy HF HM 7 rfl rfl rfl (v := vI b.base.seq) (Yl.qh rfl rfl (by kernel_rfl) (fun _ h => h.cell (i := 0) rfl (rfl))) fun a HF => ?_
 refine fp HF 1 8 [(27, vQ (IntKind.u64.wrap b.base.seq))] fun a HF => ?_
 replace HF := HF.sp 27 (vQ b.base.seq.toNat) rfl (qaa (by omega) (by omega))
 refine fp HF 1 9 [(28, vP g4 1)] fun a HF => ?_
 refine fy HF HM 10 rfl rfl rfl (v := vI b.base.time) (Yl.qh rfl rfl (by kernel_rfl) (fun _ h => h.cell (i := 0) rfl (rfl))) fun a HF => ?_
 refine fp HF 1 11 [(30, vQ (IntKind.u64.wrap b.base.time))] fun a HF => ?_
 replace HF := HF.sp 30 (vQ b.base.time.toNat) rfl (qaa (by omega) (by omega))
 refine fo HF 12 rfl rfl ?_
 refine zp HF HM (vs := [(0, vQ b.cpu), (1, vQ b.lost.toNat), (2, vQ b.base.seq.toNat), (3, vQ b.base.time.toNat)]) (cs := #[vQ b.cpu, vQ b.lost.toNat, vQ b.base.seq.toNat, vQ b.base.time.toNat]) rfl qf0 (by decide) rfl (by kernel_rfl) rfl (by decide) ?_
 clear HF HM; intro a w31 g31 HF HM
 refine fo HF 13 rfl rfl ?_
 refine e_cl HF [vS g31 4 4] rfl rfl (qqo _ 4 _ [b.cpu, b.lost.toNat, b.base.seq.toNat, b.base.time.toNat] _ (HM.rdBlk (i := 0) (n := 4) (size := 1) rfl rfl) (by intro x hx; simp only [List.mem_cons, List.not_mem_nil, or_false] at hx; omega) (by omega)) ?_
 rintro _ w32 ⟨⟨A32, c32, rfl, ho, hc32⟩, hbw⟩
 refine ⟨_, rfl, ?_⟩
 replace HM := HM.callRow hbw ho
 clear HF; intro a HF
 have hfl := qah [b.cpu, b.lost.toNat, b.base.seq.toNat, b.base.time.toNat]
 refine fy HF HM 14 rfl rfl rfl (Yl.len rfl rfl (by kernel_rfl)) fun a HF => ?_
 refine fp HF 1 15 [(34, vI (IntKind.i64.wrap (8 + ((([b.cpu, b.lost.toNat, b.base.seq.toNat, b.base.time.toNat].flatMap vbytes).length : Nat) : Int))))] fun a HF => ?_
 replace HF := HF.sp 34 (vI (8 + ([b.cpu, b.lost.toNat, b.base.seq.toNat, b.base.time.toNat].flatMap vbytes).length : Nat)) rfl (qo (by omega) (by simp only [List.length_cons, List.length_nil] at hfl; omega))
 refine fp HF 1 16 [(35, vI (IntKind.i64.wrap (((8 + ([b.cpu, b.lost.toNat, b.base.seq.toNat, b.base.time.toNat].flatMap vbytes).length : Nat) : Int) + 4)))] fun a HF => ?_
 replace HF := HF.sp 35 (vI (b.sz 0)) rfl (qo (by rw [qu7]; omega) (by have := sz_le b 0; omega))
 refine fp HF 1 17 [(5, vI (b.sz 0))] fun a HF => ?_
 refine qb rfl (wp_seq (wp_seq (qa ?_)))
 refine fp HF 1 0 [(36, vP g1 4)] fun a HF => ?_
 refine fy HF HM 1 rfl rfl rfl (v := .slice A b.evs.length c) (Yl.qh rfl rfl (by kernel_rfl) (fun _ h => h.cell (i := 3) rfl (rfl))) fun a HF => ?_
 refine fy HF HM 2 rfl rfl rfl (Yl.len rfl rfl (by kernel_rfl)) fun a HF => ?_
 refine fp HF 1 3 [(39, vI 0)] fun a HF => ?_
 refine qb rfl (wp_block ?_)
 replace HM := HM.picks (fs' := [.blk g4 b.base.cells 26, .blk g1 (b.cells A c) 41]) [2, 3] (by decide) rfl
 refine qs (fun mS aS wS => ∃ (k : Nat), (k ≤ b.evs.length) ∧ (∀ i, i < k → b.big (i + 1) = false) ∧ mS = b.evs.length - k ∧ Fr aS 70 [] [(39, vI k), (38, vI b.evs.length), (37, .slice A b.evs.length c), (5, vI (b.sz k)), (4, vP g4 0), (16, .bool false), (12, .bool false), (3, vI 0), (2, vI 0), (1, vP g1 0)] ∧ Mem w wS [.blk g4 ((b.atK k).cells) 26, .blk g1 (b.cells A c) 41]) (m := b.evs.length - 0) ⟨0, Nat.zero_le _, fun i hi => absurd hi (Nat.not_lt_zero _), rfl, HF.sub (by kernel_rfl), HM.picks [0, 1] (by decide) rfl⟩ ?_
 clear HF HM; rintro mS a w_ ⟨k, hk0, hno, rfl, HF, HM⟩
 refine wp_seq (qa ?_)
 refine fp HF 1 0 [(40, .bool (decide ((k : Int) < (b.evs.length : Int))))] fun a HF => ?_
 refine qb rfl (wp_seq ?_)
 rcases HF.tf 40 rfl with ⟨hb40, HF⟩ | ⟨hb40, HF⟩
 ·
  have hd40 := of_decide_eq_true hb40
  have hk40 : k < b.evs.length := by omega
  have hp := qu6 (qkm b.evs none b.base k hch hk40)
  have hs0 := sz_le b k
  have hs1 := sz_le b (k + 1)
  have hvb := qk (k + 1)
  refine qe HF rfl (wp_skip (wp_seq (wp_block (wp_seq (qa ?_)))))
  refine fp HF 1 0 [(41, vI k)] fun a HF => ?_
  obtain ⟨gA, oA, rfl, _⟩ := hr.zm (Nat.lt_of_le_of_lt (Nat.zero_le _) (show k < b.evs.length from by omega)) (by decide)
  refine fy HF HM 1 rfl rfl rfl (v := vP gA (oA + k * 11)) (Yl.ix gA oA k 11 rfl rfl rfl) fun a HF => ?_
  refine fy HF HM 2 rfl rfl rfl (v := .agg ((b.evs.getD k Ev.zero).cells)) (Yl.zl rfl rfl ⟨(by kernel_rfl), (by kernel_rfl)⟩ rfl (fun _ h => (h.old hr).qad qy ((getD_at Ev.zero (k := k) (by first | omega | (simp; omega)))))) fun a HF => ?_
  refine fo HF 3 rfl rfl ?_
  refine qq HF HM (cs := #[vI 0, vI 0, vB 0, vB 0, vI 0, vI 0, vI 0, vI 0, vI 0, vQ 0, vI 0]) rfl (by kernel_rfl) rfl (by decide) ?_
  clear HF HM; intro a w7 g7 HF HM
  refine fp HF 1 4 [(6, vI k)] fun a HF => ?_
  refine fo HF 5 rfl rfl ?_
  refine e_sa HF HM 0 rfl rfl rfl rfl rfl ⟨(by kernel_rfl), (by kernel_rfl)⟩ rfl rfl (qaf (b.evs.getD k Ev.zero)) ?_
  clear HM; intro w9_5 HM
  refine qb rfl (wp_seq (qa ?_))
  refine fy HF HM 0 rfl rfl rfl (v := .agg ((b.atK k).cells)) (Yl.zl rfl rfl ⟨(by kernel_rfl), (by kernel_rfl)⟩ rfl (fun _ h => qf (h.blk (i := 1) rfl))) fun a HF => ?_
  refine fy HF HM 1 rfl rfl rfl (v := .agg ((b.evs.getD k Ev.zero).cells)) (Yl.zl rfl rfl ⟨(by kernel_rfl), (by kernel_rfl)⟩ rfl (fun _ h => qf (h.blk (i := 0) rfl))) fun a HF => ?_
  refine fo HF 2 rfl rfl ?_
  refine e_cl HF [.agg ((b.atK k).cells), .agg ((b.evs.getD k Ev.zero).cells)] rfl rfl (qux (b.atK k) (b.evs.getD k Ev.zero) (hok.evs _ (qaz _ (by omega))) B _ (hL.mem HM hB).laid (HM.le hB) (congrArg List.length hp.2) hp.1) ?_
  rintro _ w47 ⟨rfl, hbw⟩
  refine ⟨_, rfl, ?_⟩
  replace HM := HM.call hbw
  clear HF; intro a HF
  refine fp HF 5 3 [(8, vI ((zn (b.atK k) (b.evs.getD k Ev.zero)).length))] fun a HF => ?_
  refine qb rfl (wp_seq (qa ?_))
  refine fp HF 3 0 [(52, vI (IntKind.i64.wrap ((b.sz k : Int) + ((zn (b.atK k) (b.evs.getD k Ev.zero)).length : Int))))] fun a HF => ?_
  replace HF := HF.sp 52 (vI (b.sz (k + 1))) rfl (qo (by rw [qq7 (by omega)]; omega) (by omega))
  refine fp HF 1 3 [(5, vI (b.sz (k + 1)))] fun a HF => ?_
  refine qb rfl (wp_seq (wp_seq (qa ?_)))
  refine fp HF 3 0 [(55, vI (IntKind.i64.wrap ((k : Int) + 1))), (53, vI (b.sz (k + 1)))] fun a HF => ?_
  replace HF := HF.sp 55 (vI (k + 1 : Nat)) rfl (qo (by omega) (by omega))
  refine fp HF 1 3 [(56, vQ (IntKind.u64.wrap ((k + 1 : Nat) : Int)))] fun a HF => ?_
  replace HF := HF.sp 56 (vQ (k + 1 : Nat)) rfl (qaa rfl (by omega))
  refine fo HF 4 rfl rfl ?_
  refine e_cl HF [vQ (k + 1 : Nat)] rfl rfl (qq6 (k + 1) _ (by omega)) ?_
  rintro _ w57 ⟨rfl, hbw⟩
  refine ⟨_, rfl, ?_⟩
  replace HM := HM.call hbw
  clear HF; intro a HF
  refine fp HF 1 5 [(58, vI (IntKind.i64.wrap ((b.sz (k + 1) : Int) + ((vbytes (k + 1)).length : Int))))] fun a HF => ?_
  replace HF := HF.sp 58 (vI (b.sz (k + 1) + ((vbytes (k + 1)).length) : Nat)) rfl (qo (by omega) (by omega))
  refine fp HF 1 6 [(59, .bool (decide (((b.sz (k + 1) + ((vbytes (k + 1)).length) : Nat) : Int) > (4096 : Int))))] fun a HF => ?_
  refine qb rfl ?_
  rcases HF.tf 59 rfl with ⟨hb59, HF⟩ | ⟨hb59, HF⟩
  ·
   have hd59 := of_decide_eq_true hb59
   refine qe HF rfl (wp_seq (qa ?_))
   refine fp HF 3 0 [(3, vI 0), (2, vI k)] fun a HF => ?_
   refine qb rfl (wp_ret ?_)
   exact ret2 rfl HF (.tmp HF rfl) (.tmp HF rfl) (qjl (by unfold Bk.fill; rw [if_neg (by rw [hf]; decide), qnf hk40 hno (by unfold Bk.big; rw [decide_eq_true]; omega)]) HM.below)
  have hd59 := of_decide_eq_false hb59
  refine qd HF rfl (wp_skip (qa ?_))
  refine fp HF 1 0 [(61, vP g7 0)] fun a HF => ?_
  refine fy HF HM 1 rfl rfl rfl (v := vI ((b.evs.getD k Ev.zero).seq)) (Yl.qh rfl rfl (by kernel_rfl) (fun _ h => h.cell (i := 0) rfl (rfl))) fun a HF => ?_
  refine fp HF 1 2 [(63, vP g7 1)] fun a HF => ?_
  refine fy HF HM 3 rfl rfl rfl (v := vI ((b.evs.getD k Ev.zero).time)) (Yl.qh rfl rfl (by kernel_rfl) (fun _ h => h.cell (i := 0) rfl (rfl))) fun a HF => ?_
  refine fy HF HM 4 rfl rfl rfl (v := .agg #[vI ((b.evs.getD k Ev.zero).seq), vI ((b.evs.getD k Ev.zero).time)]) (Yl.build (vs := [(0, vI ((b.evs.getD k Ev.zero).seq)), (1, vI ((b.evs.getD k Ev.zero).time))]) rfl (by kernel_rfl) (by kernel_rfl)) fun a HF => ?_
  refine fo HF 5 rfl rfl ?_
  refine e_sa HF HM 1 rfl rfl rfl rfl rfl ⟨(by kernel_rfl), (by kernel_rfl)⟩ rfl rfl (by simp [Value.oneCell']) ?_
  clear HM; intro w14_5 HM
  refine qb rfl (qa ?_)
  refine fp HF 1 0 [(66, vI (IntKind.i64.wrap ((k : Int) + 1)))] fun a HF => ?_
  replace HF := HF.sp 66 (vI (k + 1 : Nat)) rfl (qo (by omega) (by omega))
  refine fp HF 1 1 [(39, vI (k + 1 : Nat))] fun a HF => ?_
  refine qb rfl ?_
  exact ⟨_, (by omega), k + 1, by omega, fun i hi => (Nat.lt_succ_iff_lt_or_eq.1 hi).elim (hno i) (fun h => by subst h; unfold Bk.big; rw [decide_eq_false]; omega), rfl, HF.sub (by kernel_rfl), HM.picks [1, 2] (by decide) rfl⟩
 have hd40 := of_decide_eq_false hb40
 have hke : k = b.evs.length := by omega
 refine qd HF rfl (wp_exit (wp_seq (qa ?_)))
 refine fp HF 1 0 [(67, vP g1 4)] fun a HF => ?_
 refine fy HF HM 1 rfl rfl rfl (v := .slice A b.evs.length c) (Yl.qh rfl rfl (by kernel_rfl) (fun _ h => h.cell (i := 1) rfl (rfl))) fun a HF => ?_
 refine fy HF HM 2 rfl rfl rfl (Yl.len rfl rfl (by kernel_rfl)) fun a HF => ?_
 refine fp HF 2 3 [(3, vI 0), (2, vI b.evs.length)] fun a HF => ?_
 refine qb rfl (wp_ret ?_)
 exact ret2 rfl HF (.tmp HF rfl) (.tmp HF rfl) (qjl (by unfold Bk.fill; rw [if_neg (by rw [hf]; decide), qg5 (fun i hi => hno i (by omega))]) HM.below)
theorem qip : EI Tryd.prog 112 117 (.agg Ev.zero.cells) 11 80 := ⟨by kernel_rfl, by kernel_rfl, rfl, by omega⟩
def putUp (b : Bs) (e : Ev) (k : Nat) : List Nat := [e.kind] ++ vbytes (e.seq - b.seq).toNat ++ vbytes (e.time - b.time).toNat ++ (e.vals.take k).flatMap vbytes
theorem qiq (b : Bs) (e : Ev) : putUp b e 0 = [e.kind] ++ vbytes (e.seq - b.seq).toNat ++ vbytes (e.time - b.time).toNat := by simp [putUp]
theorem qir {b : Bs} {e : Ev} {k x : Nat} (h : e.vals[k]? = some x) : putUp b e (k + 1) = putUp b e k ++ vbytes x := by
 unfold putUp
 rw [List.take_add_one, h]
 simp
theorem qhh (b : Bs) (e : Ev) : putUp b e e.vals.length = zn b e := by
 unfold putUp zn qan
 rw [List.take_length]
 simp
theorem qrq (b : Bs) (e : Ev) (k : Nat) : (putUp b e k).length ≤ 61 := by
 unfold putUp
 simp only [List.length_append, List.length_cons, List.length_nil]
 have h1 := qk (e.seq - b.seq).toNat
 have h2 := qk (e.time - b.time).toNat
 have h3 : ∀ l : List Nat, (l.flatMap vbytes).length ≤ l.length * 10 := by
  intro l
  induction l with
  | nil => simp
  | cons x r ih => rw [List.flatMap_cons, List.length_append, List.length_cons]; have := qk x; omega
 have h4 := h3 (e.vals.take k)
 have h5 := qes e
 rw [List.length_take] at h4
 omega
theorem qor {l : List Ev} {k : Nat} {e : Ev} (hk : l[k]? = some e) : rowGo (qa9 l k) k (l.drop k) = if e.check ≠ 0 then ((k : Int), e.check) else if (qa9 l k).all (fun q => e.after q) = false then ((k : Int), 71) else rowGo (qa9 l (k + 1)) (k + 1) (l.drop (k + 1)) := by
 obtain ⟨hl, he⟩ := List.getElem?_eq_some_iff.1 hk
 rw [List.drop_eq_getElem_cons hl, he, show qa9 l (k + 1) = some e from hk]
 rfl
theorem qdt {w w' : World} {b : Bs} {l : List Ev} {er : Nat} (h : qv b l = er) (he : er ≠ 0) (hb : Below w.heap.size w w') : qar w (qv b l) (zi b l) (.returned (.tuple #[.slice none 0 0, .int .i64 (er : Int)])) w' := by
 have ho : zi b l = [] := by unfold zi; rw [if_neg (by omega)]
 rw [ho, h]
 exact ⟨⟨none, 0, rfl, World.ownsRow_nil _ _ _ _, Nat.le_refl _⟩, hb⟩
theorem qk2 {b : Bs} {l : List Ev} (h : (rowR l).2 ≠ 0) : qv b l = (rowR l).2 := by unfold qv; rw [if_pos h]
theorem qjo {b : Bs} {l : List Ev} (h : (rowR l).2 = 0) (hb : ¬ b.right = true) : qv b l = 70 := by unfold qv; rw [if_neg (by omega), if_neg (by simp [hb])]
theorem qk3 : ∀ (l : List Ev) (b : Bs) (e : Ev), recs b (l ++ [e]) = recs b l ++ zn (match l.getLast? with | some q => q.at | none => b) e
 | [], b, e => by simp [recs]
 | x :: l, b, e => by
  rw [List.cons_append, recs, recs, qk3 l x.at e, List.append_assoc]
  congr 2
  cases l with
  | nil => rfl
  | cons y r => simp only [List.getLast?_cons, Option.getD_some]
def zh (b : Bs) (l : List Ev) (k : Nat) : List Nat := recs b (l.take k)
theorem qnm : ∀ (l : List Ev) (b : Bs), (recs b l).length ≤ 61 * l.length
 | [], _ => by simp [recs]
 | e :: l, b => by
  rw [recs, List.length_append, List.length_cons]
  have h1 := qnm l e.at
  have h2 := qls b e
  omega
theorem qmd (b : Bs) (l : List Ev) (k : Nat) : (zh b l k).length ≤ 61 * k := by
 have h1 := qnm (l.take k) b
 have h2 : (l.take k).length ≤ k := by rw [List.length_take]; omega
 unfold zh
 omega
theorem qrr (b : Bs) (e : Ev) : (zy b e).length ≤ 61 := by
 unfold zy
 split
 ·exact qls b e
 ·simp
structure WriteAt (b : Bs) (l : List Ev) (k : Nat) (bk : Bs) : Prop where
 base : bk = qdi b l k
 head : 0 < k → l.head?.all b.behind = true
theorem WriteAt.start (b : Bs) (l : List Ev) : WriteAt b l 0 b := ⟨rfl, fun h => by omega⟩
section
variable {b bk : Bs} {l : List Ev} {k : Nat} {e : Ev}
theorem WriteAt.bad (h : WriteAt b l k bk) (hr : (rowR l).2 = 0) (hb : b.right = true) (hk : l[k]? = some e) (hp : qx bk e ≠ 0) : k = 0 := by
 rcases Nat.eq_zero_or_pos k with h0 | h0
 ·exact h0
 ·obtain ⟨hl, he⟩ := List.getElem?_eq_some_iff.1 hk
  have := qm1 hr hb (h.head h0) k hl
  rw [he, ← h.base] at this
  exact absurd this hp
theorem WriteAt.fail (h : WriteAt b l k bk) (hr : (rowR l).2 = 0) (hb : b.right = true) (hk : l[k]? = some e) (h0 : k = 0) (hp : qx bk e ≠ 0) : qv b l = qx bk e := by
 subst h0
 have hbk : bk = b := h.base
 subst hbk
 obtain ⟨g1, _, _⟩ := qfl l none 0 hr
 have hc := g1 e (List.mem_of_getElem? hk)
 have hbh : ¬ bk.behind e = true := by
  intro h1
  unfold qx at hp
  rw [if_neg (by simp [hc]), if_pos ⟨hb, h1⟩] at hp
  exact hp rfl
 have hh : l.head? = some e := by rw [List.head?_eq_getElem?]; exact hk
 unfold qv qx
 rw [if_neg (by omega), if_neg (by simp [hh, hbh]), if_neg (by simp [hc]), if_neg (by simp [hbh])]
theorem WriteAt.up (h : WriteAt b l k bk) (hk : l[k]? = some e) (hp : qx bk e = 0) : zh b l (k + 1) = zh b l k ++ zy bk e := by
 obtain ⟨hl, he⟩ := List.getElem?_eq_some_iff.1 hk
 unfold zh zy
 rw [List.take_add_one, hk, if_pos hp, h.base]
 show recs b (l.take k ++ [e]) = _
 rw [qk3]
 congr 2
 cases k with
 | zero => simp [qdi]
 | succ j =>
  rw [show (l.take (j + 1)).getLast? = l[j]? from by rw [List.getLast?_take]; simp [List.getElem?_eq_getElem (show j < l.length by omega)]]
  rfl
theorem WriteAt.next (h : WriteAt b l k bk) (hk : l[k]? = some e) (hp : qx bk e = 0) : WriteAt b l (k + 1) e.at := by
 refine ⟨by show e.at = (match l[k]? with | some e => e.at | none => b); rw [hk], fun _ => ?_⟩
 rcases Nat.eq_zero_or_pos k with h0 | h0
 ·subst h0
  have hbk : bk = b := h.base
  subst hbk
  have hh : l.head? = some e := by rw [List.head?_eq_getElem?]; exact hk
  rw [hh]
  unfold qx at hp
  split at hp
  ·omega
  ·split at hp
   ·rename_i h1; exact h1.2
   ·omega
 ·exact h.head h0
theorem WriteAt.done {w w' : World} {n c : Nat} {A : Option Addr} (h : WriteAt b l n bk) (hr : (rowR l).2 = 0) (hb : b.right = true) (hln : l.length = n) (ho : w'.ownsRow w.heap.size 5 1 (.slice A (zh b l n).length c) (zh b l n).length ((zh b l n).map B8)) (hc : (zh b l n).length ≤ c) (hw : Below w.heap.size w w') :
  qar w (qv b l) (zi b l) (.returned (.tuple #[.slice A (zh b l n).length c, .int .i64 0])) w' := by
 have hh : l.head?.all b.behind = true := by
  rcases Nat.eq_zero_or_pos n with h0 | h0
  ·subst h0; rw [List.length_eq_zero_iff.1 hln]; rfl
  ·exact h.head h0
 have he : qv b l = 0 := by unfold qv; rw [if_neg (by omega), if_pos ⟨hb, hh⟩]
 have hout : zi b l = zh b l n := by unfold zi zh; rw [if_pos he, ← hln, List.take_length]
 rw [he, hout]
 exact ⟨⟨A, c, rfl, ho, hc⟩, hw⟩
end
structure ReadJn (b : Bs) (cpu : Nat) (m : Nat) (l : List Nat) (es : List Ev) (u : Nat) (bk : Bs) : Prop where
 fits : u ≤ l.length
 most : es.length ≤ u
 few : es.length ≤ m
 last : ∀ q, es.getLast? = some q → bk = q.at
 said : qw cpu m b none l = joinE es u (qw cpu (m - es.length) bk es.getLast? (l.drop u))
section
variable {b bk : Bs} {cpu m u L er : Nat} {l : List Nat} {es : List Ev} {e : Ev}
theorem ReadJn.start (b : Bs) (cpu m : Nat) (l : List Nat) : ReadJn b cpu m l [] 0 b := ⟨Nat.zero_le _, Nat.le_refl _, Nat.zero_le _, fun q h => by simp at h, (qj6 cpu m b none l).symm⟩
theorem ReadJn.bad (h : ReadJn b cpu m l es u bk) (hm : es.length < m) (hq : takeR bk cpu (l.drop u) = (e, L, er)) (he : er ≠ 0) : qw cpu m b none l = ([], 0, er) := by
 rw [h.said, show m - es.length = (m - es.length - 1) + 1 by omega]
 exact qj5 hq he es u
theorem ReadJn.same (h : ReadJn b cpu m l es u bk) (hm : es.length < m) (hq : takeR bk cpu (l.drop u) = (e, L, 0)) (he : es.getLast?.any (fun q => decide (e.seq = q.seq)) = true) : qw cpu m b none l = ([], 0, 71) := by
 rw [h.said, show m - es.length = (m - es.length - 1) + 1 by omega]
 exact qh5 hq he es u
theorem ReadJn.next (h : ReadJn b cpu m l es u bk) (hm : es.length < m) (hq : takeR bk cpu (l.drop u) = (e, L, 0)) (he : es.getLast?.any (fun q => decide (e.seq = q.seq)) = false) : ReadJn b cpu m l (es ++ [e]) (u + L) e.at := by
 have h1 := qgq bk cpu (l.drop u)
 rw [hq, List.length_drop] at h1
 simp only at h1
 have h2 := h1.2 trivial
 have h3 := h.fits
 have h4 := h.most
 refine ⟨by omega, by simp; omega, by simp; omega, fun q hq => ?_, ?_⟩
 ·simp at hq; rw [hq]
 ·rw [h.said, show m - es.length = (m - es.length - 1) + 1 by omega, qfm hq he es u, List.drop_drop]
  simp [Nat.sub_sub]
theorem ReadJn.done (h : ReadJn b cpu m l es u bk) (hm : m ≤ es.length) : qw cpu m b none l = (es, u, 0) := by
 rw [h.said, show m - es.length = 0 by omega]
 simp [qw, joinE]
end
theorem qe7 {cpu : Nat} : ∀ (l : List Ev) (p : Option Ev) (b : Bs), Chain cpu p b l → ∀ e ∈ l, e.cpu = cpu
 | [], _, _, _, e, he => by cases he
 | x :: r, p, b, h, e, he => by
  obtain ⟨h1, h2, h3, h4⟩ := h
  rcases List.mem_cons.1 he with rfl | he
  ·exact h2
  ·exact qe7 r (some x) x.at h4 e he
theorem qg6 {cpu : Nat} : ∀ (l : List Ev) (p : Option Ev) (b : Bs) (k : Nat), Chain cpu p b l → Chain cpu p b (l.take k)
 | [], _, _, k, _ => by rw [List.take_nil]; trivial
 | _ :: _, _, _, 0, _ => trivial
 | e :: r, _, _, k + 1, h => ⟨h.1, h.2.1, h.2.2.1, qg6 r (some e) e.at k h.2.2.2⟩
theorem qe8 {b : Bk} (h : b.kind = 2) : b.fits = decide (1 ≤ b.next ∧ b.next ≤ 281474976710657 ∧ b.cpu = 0 ∧ b.lost = 0 ∧ b.evs.length = 0) := by
 unfold Bk.fits; rw [if_neg (by omega), if_pos h]; rfl
theorem qd5 {b : Bk} (h2 : b.kind ≠ 2) (h : b.kind ≠ 1 ∨ 63 < b.cpu ∨ b.lost < 0 ∨ 281474976710656 < b.lost ∨ b.next ≠ 0 ∨ (b.lost = 0 ∧ b.evs.length = 0)) : b.fits = false := by
 unfold Bk.fits
 by_cases h1 : b.kind = 1
 ·rw [if_pos h1]
  unfold Bk.qdb
  rw [decide_eq_false_iff_not]
  rintro ⟨a1, a2, a3, a4, a5, a6⟩
  rcases h with h | h | h | h | h | ⟨h, h'⟩
  ·exact h h1
  ·omega
  ·omega
  ·omega
  ·exact h a5
  ·rw [qfu h', decide_eq_true_eq] at a6
   omega
 ·rw [if_neg h1, if_neg h2]
theorem qng {b : Bk} (hok : b.Ok) (h2 : b.kind ≠ 2) {k : Nat} (hk : k < b.evs.length) (h : (b.evs.getD k Ev.zero).cpu ≠ b.cpu) : b.fits = false := by
 rw [Bool.eq_false_iff]
 intro hf
 obtain ⟨h1, hE⟩ := qd2 hf h2
 obtain ⟨e, r, g⟩ := qgh hok hE (by omega)
 exact h (qe7 _ _ _ g.chain _ (qaz Ev.zero hk))
theorem qe9 {b : Bk} (h1 : b.kind = 1) (h2 : b.cpu ≤ 63) (h3 : 0 ≤ b.lost) (h4 : b.lost ≤ 281474976710656) (h5 : b.next = 0) (h6 : ¬ (b.lost = 0 ∧ b.evs.length = 0)) (hall : ∀ k, k < b.evs.length → (b.evs.getD k Ev.zero).cpu = b.cpu) :
  b.fits = decide ((rowR b.evs).2 = 0) := by
 have hh : b.qhq = true := by
  by_cases h : b.evs.length = 0
  ·rw [qfu h, decide_eq_true_eq]; omega
  ·rw [qgz h, decide_eq_true_eq]; exact hall 0 (by omega)
 unfold Bk.fits
 rw [if_pos h1]
 unfold Bk.qdb
 rw [Bool.eq_iff_iff, decide_eq_true_eq, decide_eq_true_eq]
 exact ⟨fun h => h.1, fun h => ⟨h, by omega, h3, h4, h5, hh⟩⟩
def Bk.upto (b : Bk) (n : Nat) : Bk := ⟨b.kind, b.cpu, b.lost, b.next, b.evs.take n⟩
theorem qtf {b : Bk} {n : Nat} (h : n ≤ b.evs.length) : (b.upto n).evs.length = n := by show (b.evs.take n).length = n; rw [List.length_take]; omega
theorem qq8 {b : Bk} (hk : b.kind = 1) {n : Nat} (h1 : 0 < n) (h2 : n ≤ b.evs.length) : 12 + (b.upto n).body.length = b.sz n + (vbytes n).length := by
 have hb : (b.upto n).base = b.base := by
  unfold Bk.base Bk.upto
  cases hl : b.evs with
  | nil => simp
  | cons e r =>
   cases n with
   | zero => omega
   | succ j => rfl
 have hl2 := qtf h2
 unfold Bk.body Bk.sz
 rw [if_neg (by show ¬ b.kind = 2; omega), hb]
 simp only [hl2]
 rw [if_neg (by omega)]
 show 12 + (vbytes b.cpu ++ vbytes b.lost.toNat ++ vbytes n ++ (vbytes b.base.seq.toNat ++ vbytes b.base.time.toNat ++ recs b.base (b.evs.take n))).length = _
 simp only [List.length_append]
 omega
theorem qq9 : ∀ (f x y : Nat), x ≤ y → (grp f x).length ≤ (grp f y).length
 | 0, x, y, _ => by simp [grp]
 | f + 1, x, y, h => by
  rcases Nat.lt_or_ge x 128 with h1 | h1
  ·rw [qei f x h1]
   rcases Nat.lt_or_ge y 128 with h2 | h2
   ·rw [qei f y h2]; simp
   ·rw [qcd f y h2]; simp
  ·rw [qcd f x h1, qcd f y (by omega)]
   have := qq9 f (x / 128) (y / 128) (Nat.div_le_div_right h)
   simp only [List.length_cons]
   omega
theorem qii {x y : Nat} (h : x ≤ y) : (vbytes x).length ≤ (vbytes y).length := by unfold vbytes; rw [List.length_map, List.length_map]; exact qq9 10 x y h
theorem qwc {b : Bk} {i j : Nat} (h : i ≤ j) : b.sz i ≤ b.sz j := by
 induction h with
 | refl => exact Nat.le_refl _
 | @step j _ ih =>
  refine Nat.le_trans ih ?_
  rcases Nat.lt_or_ge j b.evs.length with h1 | h1
  ·rw [qq7 h1]; omega
  ·unfold Bk.sz
   rw [List.take_of_length_le h1, List.take_of_length_le (by omega : b.evs.length ≤ j + 1)]
   omega
theorem qtg {b : Bk} {i j : Nat} (h : i ≤ j) (hj : b.big j = false) : b.big i = false := by
 unfold Bk.big at hj ⊢
 rw [decide_eq_false_iff_not] at hj ⊢
 have h1 := qwc (b := b) h
 have h2 := qii h
 omega
theorem qra {b : Bk} {n : Nat} (hn : n ≤ b.evs.length) (h1 : 0 < n → b.big n = false) (h2 : ∀ m, n < m → m ≤ b.evs.length → b.big m = true) : b.qeb = n := by
 have hno : ∀ i, i < n → b.big (i + 1) = false := fun i hi => qtg (by omega) (h1 (by omega))
 rcases Nat.lt_or_ge n b.evs.length with h | h
 ·exact qnf h hno (h2 _ (by omega) (by omega))
 ·have : n = b.evs.length := by omega
  subst this
  exact qg5 hno
theorem qcj : SI Tryd.prog 114 5 := ⟨by kernel_rfl, by kernel_rfl⟩
theorem qnn {b : Bk} (hk : b.kind = 2) : vbytes b.next.toNat = b.body := by unfold Bk.body; rw [if_pos hk]
theorem qk4 {b : Bk} (hk : b.kind ≠ 2) (h : b.evs.length = 0) : [b.cpu, b.lost.toNat, b.evs.length].flatMap vbytes = b.body := by
 unfold Bk.body
 rw [if_neg hk, if_pos h]
 simp
theorem qk5 {b : Bk} (hk : b.kind ≠ 2) (h : b.evs.length ≠ 0) : [b.cpu, b.lost.toNat, b.evs.length].flatMap vbytes ++ [(b.evs.getD 0 Ev.zero).seq.toNat, (b.evs.getD 0 Ev.zero).time.toNat].flatMap vbytes ++ recs b.base b.evs = b.body := by
 unfold Bk.body
 rw [if_neg hk, if_neg h, qdp]
 simp
theorem raw10 (b : Bk) : ((#[Value.int .u8 (((b.body.length + 12) % 256 : Nat) : Int), .int .u8 (((b.body.length + 12) / 256 % 256 : Nat) : Int), .int .u8 (((b.body.length + 12) / 65536 % 256 : Nat) : Int), .int .u8 (((b.body.length + 12) / 16777216 % 256 : Nat) : Int), .int .u8 113, .int .u8 116, .int .u8 1, .int .u8 (b.kind : Int)] : Array Value).toList ++ b.body.map B8) = b.raw.map B8 := by
 unfold Bk.raw le4
 rw [Nat.add_comm 12]
 rfl
def quf (w : World) (b : Bk) (r : Ending) (w' : World) : Prop :=
 (∃ A c, r = .returned (.agg (b.cells A c)) ∧ w'.ownsRow w.heap.size 117 11 (.slice A b.evs.length c) b.evs.length (b.evs.flatMap evL) ∧ b.evs.length ≤ c) ∧ Below w.heap.size w w'
def waUp (l : List Nat) (k : Nat) : List Nat := (l.take k).flatMap vbytes
theorem qk6 {l : List Nat} {k : Nat} (h : k < l.length) : waUp l (k + 1) = waUp l k ++ vbytes (l.getD k 0) := by
 unfold waUp
 rw [← List.take_append_getElem (by omega : k < l.length), List.flatMap_append, List.getD_eq_getElem?_getD, List.getElem?_eq_getElem h]
 simp
theorem qno (l : List Nat) (k : Nat) : (waUp l k).length ≤ 10 * k := by
 unfold waUp
 have h := qah (l.take k)
 rw [List.length_take] at h
 omega
def updUp {α : Type} (f : α → α) (l : List α) (k : Nat) : List α := (l.take k).map f ++ l.drop k
theorem qru {α : Type} (f : α → α) (l : List α) (k : Nat) : (updUp f l k).length = l.length := by
 unfold updUp
 rw [List.length_append, List.length_map, List.length_take, List.length_drop]
 omega
theorem qou {α : Type} (f : α → α) (l : List α) : updUp f l 0 = l := by simp [updUp]
theorem qtn {α : Type} (f : α → α) (l : List α) {k : Nat} (d : α) (h : k < l.length) : (updUp f l k)[k]? = some (l.getD k d) := by
 unfold updUp
 rw [List.getElem?_append_right (by rw [List.length_map, List.length_take]; omega), List.length_map, List.length_take, Nat.min_eq_left (by omega), Nat.sub_self, List.getElem?_drop, List.getD_eq_getElem?_getD, Nat.add_zero, List.getElem?_eq_getElem h]
 rfl
theorem qov {α : Type} (f : α → α) (l : List α) {k : Nat} (d : α) (h : k < l.length) : (updUp f l k).set k (f (l.getD k d)) = updUp f l (k + 1) := by
 unfold updUp
 have hk : (l.take k).length = k := by rw [List.length_take]; omega
 have hd : l.drop k = l.getD k d :: l.drop (k + 1) := by
  rw [List.getD_eq_getElem?_getD, List.getElem?_eq_getElem h]
  exact List.drop_eq_getElem_cons h
 have ht : l.take (k + 1) = l.take k ++ [l.getD k d] := by
  rw [List.take_succ_eq_append_getElem h, List.getD_eq_getElem?_getD, List.getElem?_eq_getElem h]
  rfl
 rw [List.set_append, if_neg (by rw [List.length_map]; omega), List.length_map, hk, Nat.sub_self, hd, List.set_cons_zero, ht, List.map_append, List.append_assoc]
 rfl
def qgc (e : Ev) : Ev := { e with seq := -1 }
theorem qow (e : Ev) : evL (qgc e) = (evL e).set 0 (.int .i64 (-1)) := rfl
theorem qmh {l : List Ev} {k : Nat} (h : k < l.length) : (l.take (k + 1)).flatMap evL = (l.take k).flatMap evL ++ evL (l.getD k Ev.zero) := by
 rw [List.take_succ_eq_append_getElem h, List.getD_eq_getElem?_getD, List.getElem?_eq_getElem h, List.flatMap_append]
 simp
def qwh (w : World) (b : Bk) (r : Ending) (w' : World) : Prop :=
 (∃ A c, r = .returned (.agg (b.cells A c)) ∧ w'.ownsRow w.heap.size 45 11 (.slice A b.evs.length c) b.evs.length (b.evs.flatMap evL) ∧ b.evs.length ≤ c) ∧ Below w.heap.size w w'
theorem qk7 (b : Bk) (A : Option Addr) (c : Nat) (w : World) (hr : Rd w w.heap.size 11 A b.evs.length (b.evs.flatMap evL)) (hn : b.evs.length ≤ 1000000) :
    Calls Tryd.prog 52 #[.agg (b.cells A c)] w (quf w b) := by
 refine qg (vs := [.agg (b.cells A c)]) Tryd.func52 rfl rfl (by kernel_rfl) (σ0 := [(0, .agg (b.cells A c))]) rfl ?_
 intro a HF
 have HM := Mem.start w
 refine wp_seq (qa ?_)
 refine fo HF 0 rfl rfl ?_
 refine e_box HF HM (cs := (b.cells A c)) rfl rfl rfl rfl (by decide) ?_
 clear HF HM; intro a w1 g1 HF HM
 refine fo HF 1 rfl rfl ?_
 refine qq HF HM (cs := #[vB 0, vB 0, vI 0, vI 0, .slice none 0 0]) rfl (by kernel_rfl) rfl (by decide) ?_
 clear HF HM; intro a w2 g2 HF HM
 refine qb rfl (wp_seq (qa ?_))
 refine fp HF 1 0 [(6, vP g1 0)] fun a HF => ?_
 refine fy HF HM 1 rfl rfl rfl (v := vB b.kind) (Yl.qh rfl rfl (by kernel_rfl) (fun _ h => h.cell (i := 1) rfl (rfl))) fun a HF => ?_
 refine fp HF 1 2 [(8, vP g1 1)] fun a HF => ?_
 refine fy HF HM 3 rfl rfl rfl (v := vB b.cpu) (Yl.qh rfl rfl (by kernel_rfl) (fun _ h => h.cell (i := 1) rfl (rfl))) fun a HF => ?_
 refine fp HF 1 4 [(10, vP g1 2)] fun a HF => ?_
 refine fy HF HM 5 rfl rfl rfl (v := vI b.lost) (Yl.qh rfl rfl (by kernel_rfl) (fun _ h => h.cell (i := 1) rfl (rfl))) fun a HF => ?_
 refine fp HF 1 6 [(12, vP g1 3)] fun a HF => ?_
 refine fy HF HM 7 rfl rfl rfl (v := vI b.next) (Yl.qh rfl rfl (by kernel_rfl) (fun _ h => h.cell (i := 1) rfl (rfl))) fun a HF => ?_
 refine fy HF HM 8 rfl rfl rfl (v := .agg #[vB b.kind, vB b.cpu, vI b.lost, vI b.next, .slice none 0 0]) (Yl.build (vs := [(0, vB b.kind), (1, vB b.cpu), (2, vI b.lost), (3, vI b.next)]) rfl (by kernel_rfl) (by kernel_rfl)) fun a HF => ?_
 refine fo HF 9 rfl rfl ?_
 refine qq HF HM (cs := #[vB 0, vB 0, vI 0, vI 0, .slice none 0 0]) rfl (by kernel_rfl) rfl (by decide) ?_
 clear HF HM; intro a w3 g3 HF HM
 refine fo HF 10 rfl rfl ?_
 refine e_sa HF HM 0 rfl rfl rfl rfl rfl qcj rfl rfl (by simp [Value.oneCell']) ?_
 clear HM; intro w1_10 HM
 refine qb rfl ?_
 replace HM := HM.nil 117 11
 refine wp_seq (wp_seq (qa ?_))
 refine fp HF 1 0 [(15, vP g1 4)] fun a HF => ?_
 refine fy HF HM 1 rfl rfl rfl (v := .slice A b.evs.length c) (Yl.qh rfl rfl (by kernel_rfl) (fun _ h => h.cell (i := 3) rfl (rfl))) fun a HF => ?_
 refine fy HF HM 2 rfl rfl rfl (Yl.len rfl rfl (by kernel_rfl)) fun a HF => ?_
 refine fp HF 1 3 [(18, vI 0)] fun a HF => ?_
 refine qb rfl (wp_block ?_)
 refine qs (fun mS aS wS => ∃ (k : Nat) (Ak : Option Addr) (ck : Nat), (k ≤ b.evs.length) ∧ (k ≤ ck) ∧ mS = b.evs.length - k ∧ Fr aS 30 [] [(18, vI k), (17, vI b.evs.length), (16, .slice A b.evs.length c), (3, vP g3 0), (2, vP g2 0), (1, vP g1 0)] ∧ Mem w wS [.row (.slice Ak k ck) k ((b.evs.take k).flatMap evL) 117 11, .blk g3 #[vB b.kind, vB b.cpu, vI b.lost, vI b.next, .slice Ak k ck] 114, .blk g2 #[vB 0, vB 0, vI 0, vI 0, .slice none 0 0] 114, .blk g1 (b.cells A c) 41]) (m := b.evs.length - 0) ⟨0, none, 0, Nat.zero_le _, Nat.le_refl _, rfl, HF.sub (by kernel_rfl), HM.picks [0, 1, 2, 3] (by decide) rfl⟩ ?_
 clear HF HM; rintro mS a w_ ⟨k, Ak, ck, hk, hck, rfl, HF, HM⟩
 refine wp_seq (qa ?_)
 refine fp HF 1 0 [(19, .bool (decide ((k : Int) < (b.evs.length : Int))))] fun a HF => ?_
 refine qb rfl (wp_seq ?_)
 rcases HF.tf 19 rfl with ⟨hb19, HF⟩ | ⟨hb19, HF⟩
 ·
  have hd19 := of_decide_eq_true hb19
  have hk19 : k < b.evs.length := by omega
  refine qe HF rfl (wp_skip (wp_seq (wp_block (wp_seq (qa ?_)))))
  obtain ⟨gA, oA, rfl, _⟩ := hr.zm (Nat.lt_of_le_of_lt (Nat.zero_le _) (show k < b.evs.length from by omega)) (by decide)
  refine fy HF HM 0 rfl rfl rfl (v := vP gA (oA + k * 11)) (Yl.ix gA oA k 11 rfl rfl rfl) fun a HF => ?_
  refine fy HF HM 1 rfl rfl rfl (v := .agg ((b.evs.getD k Ev.zero).cells)) (Yl.zl rfl rfl ⟨(by kernel_rfl), (by kernel_rfl)⟩ rfl (fun _ h => (h.old hr).qad qy ((getD_at Ev.zero (k := k) (by first | omega | (simp; omega)))))) fun a HF => ?_
  refine fo HF 2 rfl rfl ?_
  refine qq HF HM (cs := #[vI 0, vI 0, vB 0, vB 0, vI 0, vI 0, vI 0, vI 0, vI 0, vQ 0, vI 0]) rfl (by kernel_rfl) rfl (by decide) ?_
  clear HF HM; intro a w5 g5 HF HM
  refine fo HF 3 rfl rfl ?_
  refine e_sa HF HM 0 rfl rfl rfl rfl rfl ⟨(by kernel_rfl), (by kernel_rfl)⟩ rfl rfl (qaf (b.evs.getD k Ev.zero)) ?_
  clear HM; intro w4_3 HM
  refine qb rfl (qa ?_)
  refine fp HF 1 0 [(22, vP g3 4)] fun a HF => ?_
  refine fy HF HM 1 rfl rfl rfl (Yl.qh rfl rfl (by kernel_rfl) (fun _ h => h.cell (i := 2) rfl rfl)) fun a HF => ?_
  refine fy HF HM 2 rfl rfl rfl (v := .agg ((b.evs.getD k Ev.zero).cells)) (Yl.zl rfl rfl ⟨(by kernel_rfl), (by kernel_rfl)⟩ rfl (fun _ h => qf (h.blk (i := 0) rfl))) fun a HF => ?_
  refine fo HF 3 rfl rfl ?_
  refine zp HF HM (vs := [(0, .agg ((b.evs.getD k Ev.zero).cells))]) (cs := (b.evs.getD k Ev.zero).cells) rfl qip (by decide) rfl (by kernel_rfl) rfl (by decide) ?_
  clear HF HM; intro a w25 g25 HF HM
  refine fo HF 4 rfl rfl ?_
  refine qz HF HM (i := 2) rfl qip rfl rfl rfl (news := (evL (b.evs.getD k Ev.zero))) (HM.rdBlk (i := 0) (n := 1) (size := 11) rfl rfl) (qaf _) (by omega) (by omega) rfl (by decide) ?_
  clear HF HM; intro a w26 A26 c26 HF HM hc26
  rw [show ((b.evs.take k).flatMap evL) ++ (evL (b.evs.getD k Ev.zero)) = (b.evs.take (k + 1)).flatMap evL from by rw [qmh (by omega)]] at HM
  refine fp HF 1 5 [(27, vP g3 4)] fun a HF => ?_
  refine fo HF 6 rfl rfl ?_
  refine zb HF HM (i := 3) (cs := #[vB b.kind, vB b.cpu, vI b.lost, vI b.next, .slice Ak k ck]) rfl rfl rfl rfl (by kernel_rfl) rfl rfl (by simp) ?_
  clear HM; intro w5_6 HM
  refine qb rfl (qa ?_)
  refine fp HF 1 0 [(28, vI (IntKind.i64.wrap ((k : Int) + 1)))] fun a HF => ?_
  replace HF := HF.sp 28 (vI (k + 1 : Nat)) rfl (qo (by omega) (by omega))
  refine fp HF 1 1 [(18, vI (k + 1 : Nat))] fun a HF => ?_
  refine qb rfl ?_
  exact ⟨_, (by omega), k + 1, A26, c26, by omega, hc26, rfl, HF.sub (by kernel_rfl), HM.picks [2, 3, 4, 5] (by decide) rfl⟩
 have hd19 := of_decide_eq_false hb19
 have hkn : k = b.evs.length := by omega
 refine qd HF rfl (wp_exit (wp_seq (qa ?_)))
 refine fy HF HM 0 rfl rfl rfl (v := .agg #[vB b.kind, vB b.cpu, vI b.lost, vI b.next, .slice Ak k ck]) (Yl.zl rfl rfl qcj rfl (fun _ h => qf (h.blk (i := 1) rfl))) fun a HF => ?_
 refine fo HF 1 rfl rfl ?_
 refine e_sa HF HM 2 rfl rfl rfl rfl rfl qcj rfl rfl (by simp [Value.oneCell']) ?_
 clear HM; intro w7_1 HM
 refine qb rfl (wp_ret ?_)
 exact ret1 rfl HF (.cellS (i := 2) HF HM rfl rfl qcj rfl) (⟨⟨Ak, ck, by rw [hkn]; rfl, by have h := HM.own (i := 0) rfl; rw [hkn, List.take_length] at h; exact h, by omega⟩, HM.below⟩)
theorem qis (x : Nat) (w : World) (hx : x < 18446744073709551616) : Calls Tryd.prog 86 #[.int .u64 (x : Int)] w (zz w (vbytes x)) :=
 (qc8 x w hx).mono fun e w' ⟨v, h1, h2, h3⟩ => by
  obtain ⟨A, c, rfl, hc⟩ := qa6 h2
  exact ⟨⟨A, c, h1, h2, hc⟩, h3⟩
theorem qit (A : Option Addr) (n c : Nat) (l : List Nat) (w : World) (hr : Rd w w.heap.size 1 A n (l.map U64)) (hln : l.length = n) (hl : ∀ x ∈ l, x < 18446744073709551616) (hn : n ≤ 1000000) :
    Calls Tryd.prog 87 #[.slice A n c] w (zz w (l.flatMap vbytes)) := by
 refine qg (vs := [.slice A n c]) Tryd.func87 rfl rfl (by kernel_rfl) (σ0 := [(0, .slice A n c)]) rfl ?_
 intro a HF
 have HM := Mem.start w
 refine wp_seq (qa ?_)
 refine fp HF 1 0 [(2, .slice none 0 0)] fun a HF => ?_
 refine qb rfl (wp_seq (qa ?_))
 refine fp HF 1 0 [(3, .slice none 0 0)] fun a HF => ?_
 refine qb rfl ?_
 replace HM := HM.nil 5 1
 refine wp_seq (wp_seq (qa ?_))
 refine fp HF 1 0 [(4, vI 0)] fun a HF => ?_
 refine qb rfl (wp_block ?_)
 refine qs (fun mS aS wS => ∃ (k : Nat) (Ak : Option Addr) (ck : Nat), (k ≤ n) ∧ ((waUp l k).length ≤ ck) ∧ mS = n - k ∧ Fr aS 19 [] [(4, vI k), (3, .slice Ak ((waUp l k).length) ck), (2, .slice none 0 0), (0, .slice A n c)] ∧ Mem w wS [.row (.slice Ak ((waUp l k).length) ck) ((waUp l k).length) ((waUp l k).map B8) 5 1]) (m := n - 0) ⟨0, none, 0, Nat.zero_le _, Nat.le_refl _, rfl, HF.sub (by kernel_rfl), HM.picks [0] (by decide) rfl⟩ ?_
 clear HF HM; rintro mS a w_ ⟨k, Ak, ck, hk, hck, rfl, HF, HM⟩
 refine wp_seq (wp_seq (qa ?_))
 refine fp HF 2 0 [(6, .slice A n c), (5, vI k)] fun a HF => ?_
 refine fy HF HM 2 rfl rfl rfl (Yl.len rfl rfl (by kernel_rfl)) fun a HF => ?_
 refine fp HF 1 3 [(8, .bool (decide ((k : Int) < (n : Int))))] fun a HF => ?_
 refine qb rfl ?_
 rcases HF.tf 8 rfl with ⟨hb8, HF⟩ | ⟨hb8, HF⟩
 ·
  have hd8 := of_decide_eq_true hb8
  have hk8 : k < n := by omega
  refine qe HF rfl (wp_skip (wp_seq (wp_block (qa ?_))))
  refine fp HF 3 0 [(13, vI k), (12, .slice A n c), (11, .slice Ak ((waUp l k).length) ck)] fun a HF => ?_
  obtain ⟨gA, oA, rfl, _⟩ := hr.zm (Nat.lt_of_le_of_lt (Nat.zero_le _) (show k < n from by omega)) (by decide)
  refine fy HF HM 3 rfl rfl rfl (v := vP gA (oA + k * 1)) (Yl.ix gA oA k 1 rfl rfl rfl) fun a HF => ?_
  have hx39 := getD_lt hl (k := k) (by first | omega | (simp; omega))
  refine fy HF HM 4 rfl rfl rfl (v := vQ (l.getD k 0)) (Yl.qh rfl rfl (by kernel_rfl) (fun _ h => (h.old hr).qbw (k := k) (qaw (F := U64) (k := k) (x := (l.getD k 0)) ((getD_at 0 (k := k) (by first | omega | (simp; omega))))))) fun a HF => ?_
  refine fo HF 5 rfl rfl ?_
  refine e_cl HF [vQ (l.getD k 0)] rfl rfl (qis (l.getD k 0) _ (hl _ (qaz 0 (by omega)))) ?_
  rintro _ w16 ⟨⟨A16, c16, rfl, ho, hc16⟩, hbw⟩
  refine ⟨_, rfl, ?_⟩
  replace HM := HM.callRow hbw ho
  clear HF; intro a HF
  refine fo HF 6 rfl rfl ?_
  refine qz HF HM (i := 1) rfl ei_u8 rfl rfl rfl (news := ((vbytes (l.getD k 0)).map B8)) (HM.rd (i := 0) rfl) (qbp _) (by have := qno l k; have := qk (l.getD k 0); omega) (by have := qno l k; have := qk (l.getD k 0); omega) rfl (by decide) ?_
  clear HF HM; intro a w17 A17 c17 HF HM hc17
  refine fp HF 1 7 [(3, .slice A17 (((waUp l k).length) + (((vbytes (l.getD k 0))).length)) c17)] fun a HF => ?_
  refine qb rfl ?_
  have hnA17 : ((waUp l k).length) + (((vbytes (l.getD k 0))).length) = (waUp l (k + 1)).length := by rw [qk6 (by omega)]; simp
  replace HM := HM.reRow (i := 1) (ys := (waUp l (k + 1)).map B8) rfl hnA17 (by rw [qk6 (by omega)]; simp)
  rw [hnA17] at hc17
  replace HF := HF.as (t := 3) (u := .slice A17 ((waUp l (k + 1)).length) c17) rfl (by rw [hnA17])
  replace HF := HF.as (t := 17) (u := .slice A17 ((waUp l (k + 1)).length) c17) rfl (by rw [hnA17])
  refine qa ?_
  refine fp HF 2 0 [(10, vI (IntKind.i64.wrap ((k : Int) + 1)))] fun a HF => ?_
  replace HF := HF.sp 10 (vI (k + 1 : Nat)) rfl (qo (by omega) (by omega))
  refine fp HF 1 2 [(4, vI (k + 1 : Nat))] fun a HF => ?_
  refine qb rfl ?_
  exact ⟨_, (by omega), k + 1, A17, c17, by omega, hc17, rfl, HF.sub (by kernel_rfl), HM.picks [1] (by decide) rfl⟩
 have hd8 := of_decide_eq_false hb8
 have hkn : k = n := by omega
 have hwa : waUp l k = l.flatMap vbytes := by unfold waUp; rw [List.take_of_length_le (by omega)]
 refine qd HF rfl (wp_exit (wp_seq (qa ?_)))
 refine fp HF 2 0 [(2, .slice Ak ((waUp l k).length) ck)] fun a HF => ?_
 refine qb rfl (wp_ret ?_)
 exact ret1 rfl HF (.tmp HF rfl) (qga (HM.own (i := 0) rfl) hck (by rw [hwa]) hwa HM.below)
theorem qhi (b : Bs) (w : World) : Calls Tryd.prog 101 #[.agg b.cells] w (BoolPost w b.right) := by
 refine qg (vs := [.agg b.cells]) Tryd.func101 rfl rfl (by kernel_rfl) (σ0 := [(0, .agg b.cells)]) rfl ?_
 intro a HF
 have HM := Mem.start w
 refine wp_seq (qa ?_)
 refine fo HF 0 rfl rfl ?_
 refine e_box HF HM (cs := b.cells) rfl rfl rfl rfl (by decide) ?_
 clear HF HM; intro a w1 g1 HF HM
 refine fp HF 1 1 [(2, .bool false)] fun a HF => ?_
 refine qb rfl (wp_seq (qa ?_))
 refine fp HF 1 0 [(3, vP g1 0)] fun a HF => ?_
 refine fy HF HM 1 rfl rfl rfl (v := vI b.seq) (Yl.qh rfl rfl (by kernel_rfl) (fun _ h => h.cell (i := 0) rfl (rfl))) fun a HF => ?_
 refine fp HF 2 2 [(6, .bool (decide ((b.seq : Int) ≥ (1 : Int))))] fun a HF => ?_
 rcases HF.tf 6 rfl with ⟨hb6, HF⟩ | ⟨hb6, HF⟩
 ·
  refine fp HF 1 4 [(7, vP g1 0)] fun a HF => ?_
  refine fy HF HM 5 rfl rfl rfl (v := vI b.seq) (Yl.qh rfl rfl (by kernel_rfl) (fun _ h => h.cell (i := 0) rfl (rfl))) fun a HF => ?_
  refine fp HF 3 6 [(11, .bool (decide ((b.seq : Int) ≤ (281474976710656 : Int))))] fun a HF => ?_
  rcases HF.tf 11 rfl with ⟨hb11, HF⟩ | ⟨hb11, HF⟩
  ·
   refine fp HF 1 9 [(12, vP g1 1)] fun a HF => ?_
   refine fy HF HM 10 rfl rfl rfl (v := vI b.time) (Yl.qh rfl rfl (by kernel_rfl) (fun _ h => h.cell (i := 0) rfl (rfl))) fun a HF => ?_
   refine fp HF 3 11 [(16, .bool (decide ((b.time : Int) ≥ (0 : Int))))] fun a HF => ?_
   rcases HF.tf 16 rfl with ⟨hb16, HF⟩ | ⟨hb16, HF⟩
   ·
    refine fp HF 1 14 [(17, vP g1 1)] fun a HF => ?_
    refine fy HF HM 15 rfl rfl rfl (v := vI b.time) (Yl.qh rfl rfl (by kernel_rfl) (fun _ h => h.cell (i := 0) rfl (rfl))) fun a HF => ?_
    refine fp HF 3 16 [(2, .bool (decide ((b.time : Int) ≤ (281474976710656 : Int))))] fun a HF => ?_
    refine qb rfl (wp_ret ?_)
    replace HM := HM.picks (fs' := []) [] (by decide) rfl
    exact ret1 rfl HF (.tmp HF rfl) (⟨congrArg (fun b => Ending.returned (.bool b)) (by unfold Bs.right; rw [Bool.eq_iff_iff]; (try simp at hb6); (try simp at hb11); (try simp at hb16); (try simp); (try omega)), HM.below⟩)
   refine fp HF 5 14 [(2, .bool false)] fun a HF => ?_
   refine qb rfl (wp_ret ?_)
   replace HM := HM.picks (fs' := []) [] (by decide) rfl
   exact ret1 rfl HF (.tmp HF rfl) (⟨congrArg (fun b => Ending.returned (.bool b)) (by unfold Bs.right; rw [Bool.eq_iff_iff]; (try simp at hb6); (try simp at hb11); (try simp at hb16); (try simp); (try omega)), HM.below⟩)
  refine fp HF 10 9 [(2, .bool false)] fun a HF => ?_
  refine qb rfl (wp_ret ?_)
  replace HM := HM.picks (fs' := []) [] (by decide) rfl
  exact ret1 rfl HF (.tmp HF rfl) (⟨congrArg (fun b => Ending.returned (.bool b)) (by unfold Bs.right; rw [Bool.eq_iff_iff]; (try simp at hb6); (try simp at hb11); (try simp); (try omega)), HM.below⟩)
 refine fp HF 15 4 [(2, .bool false)] fun a HF => ?_
 refine qb rfl (wp_ret ?_)
 replace HM := HM.picks (fs' := []) [] (by decide) rfl
 exact ret1 rfl HF (.tmp HF rfl) (⟨congrArg (fun b => Ending.returned (.bool b)) (by unfold Bs.right; rw [Bool.eq_iff_iff]; (try simp at hb6); (try simp); (try omega)), HM.below⟩)
theorem qrs {x y : Int} (h : y ≤ x) (h2 : x - y < 9223372036854775808) : IntKind.u64.wrap (IntKind.i64.wrap (x - y)) = ((x - y).toNat : Int) := by
 rw [IntWalk.i64_in _ (by omega), IntKind.wrap_u64]; omega
theorem qhj {b : Bs} {e : Ev} (h : e.check = 0) (h2 : b.right = true ∧ b.behind e = true) : qx b e = 0 := by unfold qx; rw [if_neg (by simp [h]), if_pos h2]
theorem qeq {b : Bs} {e : Ev} (h : e.check = 0) (h2 : b.right = true ∧ b.behind e = true) : zy b e = zn b e := by unfold zy; rw [if_pos (qhj h h2)]
theorem qb2 {b : Bs} {e : Ev} (h : qx b e ≠ 0) : zy b e = [] := by unfold zy; rw [if_neg h]
theorem qvc {e : Ev} (he : e.Ok) : ∀ x ∈ e.vals, x < 18446744073709551616 := by
 intro x hx
 unfold Ev.vals at hx
 obtain ⟨i, _, rfl⟩ := List.mem_map.1 hx
 have h1 := he.task.2; have h2 := he.group.2; have h3 := he.to.2; have h4 := he.weight.2; have h5 := he.ticks.2; have h6 := he.mask; have h7 := he.got.2
 unfold Ev.fld
 split <;> omega
theorem qrt (b : Bs) (e : Ev) (he : e.Ok) (w : World) : Calls Tryd.prog 102 #[.agg b.cells, .agg e.cells] w (qar w (qx b e) (zy b e)) := by
 refine qg (vs := [.agg b.cells, .agg e.cells]) Tryd.func102 rfl rfl (by kernel_rfl) (σ0 := [(0, .agg b.cells), (1, .agg e.cells)]) rfl ?_
 intro a HF
 have HM := Mem.start w
 refine wp_seq (qa ?_)
 refine fo HF 0 rfl rfl ?_
 refine e_box HF HM (cs := b.cells) rfl rfl rfl rfl (by decide) ?_
 clear HF HM; intro a w2 g2 HF HM
 refine fo HF 1 rfl rfl ?_
 refine e_box HF HM (cs := e.cells) rfl rfl rfl rfl (by decide) ?_
 clear HF HM; intro a w3 g3 HF HM
 refine fp HF 2 2 [(5, vI 0), (4, .slice none 0 0)] fun a HF => ?_
 refine qb rfl (wp_seq (qa ?_))
 refine fy HF HM 0 rfl rfl rfl (v := .agg e.cells) (Yl.zl rfl rfl ⟨(by kernel_rfl), (by kernel_rfl)⟩ rfl (fun _ h => qf (h.blk (i := 0) rfl))) fun a HF => ?_
 refine fo HF 1 rfl rfl ?_
 refine e_cl HF [.agg e.cells] rfl rfl (qkz e he _) ?_
 rintro _ w12 ⟨⟨v, rfl, ho⟩, hbw⟩
 obtain ⟨A12, c12, rfl, hc12⟩ := qa6 ho
 refine ⟨_, rfl, ?_⟩
 replace HM := HM.callRow hbw ho
 clear HF; intro a HF
 refine fp HF 5 2 [(7, vI e.check), (6, .slice A12 e.qt.length c12)] fun a HF => ?_
 refine qb rfl (wp_seq (wp_seq (qa ?_)))
 refine fp HF 2 0 [(16, .bool ((e.check : Int) != (0 : Int)))] fun a HF => ?_
 refine qb rfl ?_
 rcases HF.tf 16 rfl with ⟨hb16, HF⟩ | ⟨hb16, HF⟩
 ·
  have hbad : e.check ≠ 0 := by rw [bne_iff_ne] at hb16; omega
  refine qe HF rfl (wp_seq (qa ?_))
  refine fp HF 3 0 [(5, vI e.check), (4, .slice none 0 0)] fun a HF => ?_
  refine qb rfl (wp_ret ?_)
  exact ret2 rfl HF (.tmp HF rfl) (.tmp HF rfl) (⟨⟨none, 0, by rw [qb2 (by rw [show qx b e = e.check from by unfold qx; rw [if_pos hbad]]; exact hbad), show qx b e = e.check from by unfold qx; rw [if_pos hbad]]; rfl, by rw [qb2 (by rw [show qx b e = e.check from by unfold qx; rw [if_pos hbad]]; exact hbad)]; exact World.ownsRow_nil _ _ _ _, by rw [qb2 (by rw [show qx b e = e.check from by unfold qx; rw [if_pos hbad]]; exact hbad)]; exact Nat.le_refl _⟩, HM.below⟩)
 have hgood : e.check = 0 := by rw [bne_eq_false_iff_eq] at hb16; omega
 have hov : e.qt = e.vals := by unfold Ev.qt; rw [if_pos hgood]
 obtain ⟨_, _, _, q1, q2, q3, q4⟩ := qdh hgood
 have hvl := qes e
 rw [← hov] at hvl
 have hx64 := qvc he
 refine qd HF rfl (wp_skip (wp_seq ?_))
 refine qaq (fun aS wS => Fr aS 70 [] [(34, .bool (!(b.right && b.behind e))), (16, .bool false), (7, vI e.check), (6, .slice A12 e.qt.length c12), (5, vI 0), (4, .slice none 0 0), (3, vP g3 0), (2, vP g2 0)] ∧ Mem w wS [.row (.slice A12 e.qt.length c12) e.qt.length (e.qt.map U64) 43 1, .blk g3 e.cells 117, .blk g2 b.cells 165]) ?_ ?_
 ·
  refine qa ?_
  refine fy HF HM 0 rfl rfl rfl (v := .agg b.cells) (Yl.zl rfl rfl ⟨(by kernel_rfl), (by kernel_rfl)⟩ rfl (fun _ h => qf (h.blk (i := 2) rfl))) fun a HF => ?_
  refine fo HF 1 rfl rfl ?_
  refine e_cl HF [.agg b.cells] rfl rfl (qhi b _) ?_
  rintro _ w19 ⟨rfl, hbw⟩
  refine ⟨_, rfl, ?_⟩
  replace HM := HM.call hbw
  clear HF; intro a HF
  refine fp HF 2 2 [(21, .bool (!b.right))] fun a HF => ?_
  rcases HF.tf 21 rfl with ⟨hb21, HF⟩ | ⟨hb21, HF⟩
  ·
   refine fp HF 13 4 [(34, .bool true)] fun a HF => ?_
   refine qb rfl ?_
   have HF := HF.as (t := 34) (u := .bool (!(b.right && b.behind e))) rfl (congrArg Value.bool (by unfold Bs.behind; (try simp at hb16); (try simp at hb21); rw [Bool.eq_iff_iff]; (try simp [hb16, hb21]); (try omega)))
   exact ⟨HF.sub (by kernel_rfl), HM.picks [0, 1, 2] (by decide) rfl⟩
  refine fp HF 1 4 [(22, vP g3 0)] fun a HF => ?_
  refine fy HF HM 5 rfl rfl rfl (v := vI e.seq) (Yl.qh rfl rfl (by kernel_rfl) (fun _ h => h.cell (i := 1) rfl (rfl))) fun a HF => ?_
  refine fp HF 1 6 [(24, vP g2 0)] fun a HF => ?_
  refine fy HF HM 7 rfl rfl rfl (v := vI b.seq) (Yl.qh rfl rfl (by kernel_rfl) (fun _ h => h.cell (i := 2) rfl (rfl))) fun a HF => ?_
  refine fp HF 3 8 [(28, .bool (decide ((e.seq : Int) < (b.seq : Int))))] fun a HF => ?_
  rcases HF.tf 28 rfl with ⟨hb28, HF⟩ | ⟨hb28, HF⟩
  ·
   refine fp HF 6 11 [(34, .bool true)] fun a HF => ?_
   refine qb rfl ?_
   have HF := HF.as (t := 34) (u := .bool (!(b.right && b.behind e))) rfl (congrArg Value.bool (by unfold Bs.behind; (try simp at hb16); (try simp at hb21); (try simp at hb28); rw [Bool.eq_iff_iff]; (try simp [hb16, hb21, hb28]); (try omega)))
   exact ⟨HF.sub (by kernel_rfl), HM.picks [0, 1, 2] (by decide) rfl⟩
  refine fp HF 1 11 [(29, vP g3 1)] fun a HF => ?_
  refine fy HF HM 12 rfl rfl rfl (v := vI e.time) (Yl.qh rfl rfl (by kernel_rfl) (fun _ h => h.cell (i := 1) rfl (rfl))) fun a HF => ?_
  refine fp HF 1 13 [(31, vP g2 1)] fun a HF => ?_
  refine fy HF HM 14 rfl rfl rfl (v := vI b.time) (Yl.qh rfl rfl (by kernel_rfl) (fun _ h => h.cell (i := 2) rfl (rfl))) fun a HF => ?_
  refine fp HF 2 15 [(34, .bool (decide ((e.time : Int) < (b.time : Int))))] fun a HF => ?_
  refine qb rfl ?_
  have HF := HF.as (t := 34) (u := .bool (!(b.right && b.behind e))) rfl (congrArg Value.bool (by unfold Bs.behind; (try simp at hb16); (try simp at hb21); (try simp at hb28); rw [Bool.eq_iff_iff]; (try simp [hb16, hb21, hb28]); (try omega)))
  exact ⟨HF.sub (by kernel_rfl), HM.picks [0, 1, 2] (by decide) rfl⟩
 clear HF HM; rintro a w4 ⟨HF, HM⟩
 rcases HF.tf 34 rfl with ⟨hb34, HF⟩ | ⟨hb34, HF⟩
 ·
  have hrb : ¬ (b.right = true ∧ b.behind e = true) := by intro h; rw [h.1, h.2] at hb34; cases hb34
  refine qe HF rfl (wp_seq (qa ?_))
  refine fp HF 2 0 [(5, vI 70), (4, .slice none 0 0)] fun a HF => ?_
  refine qb rfl (wp_ret ?_)
  exact ret2 rfl HF (.tmp HF rfl) (.tmp HF rfl) (⟨⟨none, 0, by rw [qb2 (by rw [show qx b e = 70 from by unfold qx; rw [if_neg (by simp [hgood]), if_neg hrb]]; decide), show qx b e = 70 from by unfold qx; rw [if_neg (by simp [hgood]), if_neg hrb]]; rfl, by rw [qb2 (by rw [show qx b e = 70 from by unfold qx; rw [if_neg (by simp [hgood]), if_neg hrb]]; decide)]; exact World.ownsRow_nil _ _ _ _, by rw [qb2 (by rw [show qx b e = 70 from by unfold qx; rw [if_neg (by simp [hgood]), if_neg hrb]]; decide)]; exact Nat.le_refl _⟩, HM.below⟩)
 have hrb : b.right = true ∧ b.behind e = true := by simpa using hb34
 have hbr := hrb.1
 have hbb := hrb.2
 unfold Bs.right at hbr
 unfold Bs.behind at hbb
 simp only [decide_eq_true_eq] at hbr hbb
 refine qd HF rfl (wp_skip (wp_seq (qa ?_)))
 refine fp HF 1 0 [(35, vP g3 3)] fun a HF => ?_
 refine fy HF HM 1 rfl rfl rfl (v := vB e.kind) (Yl.qh rfl rfl (by kernel_rfl) (fun _ h => h.cell (i := 1) rfl (rfl))) fun a HF => ?_
 refine fo HF 2 rfl rfl ?_
 refine zp HF HM (vs := [(0, vB e.kind)]) (cs := #[vB e.kind]) rfl ei_u8 (by decide) rfl (by kernel_rfl) rfl (by decide) ?_
 clear HF HM; intro a w37 g37 HF HM
 refine fp HF 1 3 [(8, vS g37 1 1)] fun a HF => ?_
 refine qb rfl (wp_seq (qa ?_))
 refine fp HF 2 0 [(39, vP g3 0), (38, vS g37 1 1)] fun a HF => ?_
 refine fy HF HM 2 rfl rfl rfl (v := vI e.seq) (Yl.qh rfl rfl (by kernel_rfl) (fun _ h => h.cell (i := 2) rfl (rfl))) fun a HF => ?_
 refine fp HF 1 3 [(41, vP g2 0)] fun a HF => ?_
 refine fy HF HM 4 rfl rfl rfl (v := vI b.seq) (Yl.qh rfl rfl (by kernel_rfl) (fun _ h => h.cell (i := 3) rfl (rfl))) fun a HF => ?_
 refine fp HF 2 5 [(44, vQ (IntKind.u64.wrap (IntKind.i64.wrap (e.seq - b.seq))))] fun a HF => ?_
 replace HF := HF.sp 44 (vQ ((e.seq - b.seq).toNat)) rfl (by rw [qrs (by omega) (by omega)])
 refine fo HF 7 rfl rfl ?_
 refine e_cl HF [vQ ((e.seq - b.seq).toNat)] rfl rfl (qc8 ((e.seq - b.seq).toNat) _ (by omega)) ?_
 rintro _ w45 ⟨v, rfl, ho, hbw⟩
 obtain ⟨A45, c45, rfl, hc45⟩ := qa6 ho
 have hl45 := qk ((e.seq - b.seq).toNat)
 refine ⟨_, rfl, ?_⟩
 replace HM := HM.callRow hbw ho
 clear HF; intro a HF
 refine fo HF 8 rfl rfl ?_
 replace HM := HM.blkRow (i := 1) (n := 1) (size := 1) rfl rfl (by decide)
 refine qz HF HM (i := 1) rfl ei_u8 rfl rfl rfl (news := ((vbytes ((e.seq - b.seq).toNat)).map B8)) (HM.rd (i := 0) rfl) (qbp _) (by omega) (by omega) rfl (by decide) ?_
 clear HF HM; intro a w46 A46 c46 HF HM hc46
 refine fp HF 1 9 [(8, .slice A46 (1 + ((vbytes ((e.seq - b.seq).toNat)).length)) c46)] fun a HF => ?_
 refine qb rfl (wp_seq (qa ?_))
 refine fp HF 2 0 [(48, vP g3 1), (47, .slice A46 (1 + ((vbytes ((e.seq - b.seq).toNat)).length)) c46)] fun a HF => ?_
 refine fy HF HM 2 rfl rfl rfl (v := vI e.time) (Yl.qh rfl rfl (by kernel_rfl) (fun _ h => h.cell (i := 3) rfl (rfl))) fun a HF => ?_
 refine fp HF 1 3 [(50, vP g2 1)] fun a HF => ?_
 refine fy HF HM 4 rfl rfl rfl (v := vI b.time) (Yl.qh rfl rfl (by kernel_rfl) (fun _ h => h.cell (i := 4) rfl (rfl))) fun a HF => ?_
 refine fp HF 2 5 [(53, vQ (IntKind.u64.wrap (IntKind.i64.wrap (e.time - b.time))))] fun a HF => ?_
 replace HF := HF.sp 53 (vQ ((e.time - b.time).toNat)) rfl (by rw [qrs (by omega) (by omega)])
 refine fo HF 7 rfl rfl ?_
 refine e_cl HF [vQ ((e.time - b.time).toNat)] rfl rfl (qc8 ((e.time - b.time).toNat) _ (by omega)) ?_
 rintro _ w54 ⟨v, rfl, ho, hbw⟩
 obtain ⟨A54, c54, rfl, hc54⟩ := qa6 ho
 have hl54 := qk ((e.time - b.time).toNat)
 refine ⟨_, rfl, ?_⟩
 replace HM := HM.callRow hbw ho
 clear HF; intro a HF
 refine fo HF 8 rfl rfl ?_
 refine qz HF HM (i := 2) rfl ei_u8 rfl rfl rfl (news := ((vbytes ((e.time - b.time).toNat)).map B8)) (HM.rd (i := 0) rfl) (qbp _) (by omega) (by omega) rfl (by decide) ?_
 clear HF HM; intro a w55 A55 c55 HF HM hc55
 refine fp HF 1 9 [(8, .slice A55 ((1 + ((vbytes ((e.seq - b.seq).toNat)).length)) + ((vbytes ((e.time - b.time).toNat)).length)) c55)] fun a HF => ?_
 refine qb rfl ?_
 have hn55 : (1 + ((vbytes ((e.seq - b.seq).toNat)).length)) + ((vbytes ((e.time - b.time).toNat)).length) = (putUp b e 0).length := by rw [qiq]; simp; try omega
 rw [hn55] at HM hc55
 rw [show (((#[vB e.kind]).toList) ++ ((vbytes ((e.seq - b.seq).toNat)).map B8)) ++ ((vbytes ((e.time - b.time).toNat)).map B8) = (putUp b e 0).map B8 from by simp [qiq, B8]] at HM
 replace HF := HF.as (t := 8) (u := .slice A55 ((putUp b e 0).length) c55) rfl (by rw [hn55])
 replace HF := HF.as (t := 55) (u := .slice A55 ((putUp b e 0).length) c55) rfl (by rw [hn55])
 refine wp_seq (wp_seq (qa ?_))
 refine fp HF 1 0 [(9, vI 0)] fun a HF => ?_
 refine qb rfl (wp_block ?_)
 replace HM := HM.picks (fs' := [.row (.slice A55 ((putUp b e 0).length) c55) ((putUp b e 0).length) ((putUp b e 0).map B8) 5 1, .row (.slice A12 e.qt.length c12) e.qt.length (e.qt.map U64) 43 1, .blk g3 e.cells 117, .blk g2 b.cells 165]) [2, 3, 4, 5] (by decide) rfl
 refine qs (fun mS aS wS => ∃ (k : Nat) (Ak : Option Addr) (ck : Nat), (k ≤ e.qt.length) ∧ ((putUp b e k).length ≤ ck) ∧ mS = e.qt.length - k ∧ Fr aS 70 [] [(9, vI k), (55, .slice A55 ((putUp b e 0).length) c55), (8, .slice Ak ((putUp b e k).length) ck), (34, .bool false), (16, .bool false), (7, vI e.check), (6, .slice A12 e.qt.length c12), (5, vI 0), (4, .slice none 0 0), (3, vP g3 0), (2, vP g2 0)] ∧ Mem w wS [.row (.slice Ak ((putUp b e k).length) ck) ((putUp b e k).length) ((putUp b e k).map B8) 5 1, .row (.slice A12 e.qt.length c12) e.qt.length (e.qt.map U64) 43 1, .blk g3 e.cells 117, .blk g2 b.cells 165]) (m := e.qt.length - 0) ⟨0, A55, c55, Nat.zero_le _, hc55, rfl, HF.sub (by kernel_rfl), HM.picks [0, 1, 2, 3] (by decide) rfl⟩ ?_
 clear HF HM; rintro mS a w_ ⟨k, Ak, ck, hk, hck, rfl, HF, HM⟩
 refine wp_seq (wp_seq (qa ?_))
 refine fp HF 2 0 [(57, .slice A12 e.qt.length c12), (56, vI k)] fun a HF => ?_
 refine fy HF HM 2 rfl rfl rfl (Yl.len rfl rfl (by kernel_rfl)) fun a HF => ?_
 refine fp HF 1 3 [(59, .bool (decide ((k : Int) < (e.qt.length : Int))))] fun a HF => ?_
 refine qb rfl ?_
 rcases HF.tf 59 rfl with ⟨hb59, HF⟩ | ⟨hb59, HF⟩
 ·
  have hk59 : k < e.qt.length := by simp only [decide_eq_true_eq] at hb59; omega
  obtain ⟨x, hx⟩ : ∃ x, e.vals[k]? = some x := ⟨_, List.getElem?_eq_getElem (by rw [← hov]; exact hk59)⟩
  have hpl := qrq b e k
  refine qe HF rfl (wp_skip (wp_seq (wp_block (qa ?_))))
  refine fp HF 3 0 [(64, vI k), (63, .slice A12 e.qt.length c12), (62, .slice Ak ((putUp b e k).length) ck)] fun a HF => ?_
  obtain ⟨gA12, rfl⟩ := qbl (HM.own (i := 1) rfl) (Nat.lt_of_le_of_lt (Nat.zero_le _) (show k < e.qt.length from hk59))
  refine fy HF HM 3 rfl rfl rfl (v := vP gA12 (k * 1)) (Yl.ix0 gA12 k 1 rfl rfl rfl (hk59)) fun a HF => ?_
  refine fy HF HM 4 rfl rfl rfl (v := vQ x) (Yl.qh rfl rfl (by kernel_rfl) (fun _ h => h.qsc (i := 1) rfl (k := k) (qaw (F := U64) (k := k) (x := x) (by rw [hov]; exact hx)))) fun a HF => ?_
  refine fo HF 5 rfl rfl ?_
  refine e_cl HF [vQ x] rfl rfl (qc8 x _ (hx64 _ (List.mem_of_getElem? hx))) ?_
  rintro _ w67 ⟨v, rfl, ho, hbw⟩
  obtain ⟨A67, c67, rfl, hc67⟩ := qa6 ho
  have hl67 := qk x
  refine ⟨_, rfl, ?_⟩
  replace HM := HM.callRow hbw ho
  clear HF; intro a HF
  refine fo HF 6 rfl rfl ?_
  refine qz HF HM (i := 1) rfl ei_u8 rfl rfl rfl (news := ((vbytes x).map B8)) (HM.rd (i := 0) rfl) (qbp _) (by omega) (by omega) rfl (by decide) ?_
  clear HF HM; intro a w68 A68 c68 HF HM hc68
  refine fp HF 1 7 [(8, .slice A68 (((putUp b e k).length) + ((vbytes x).length)) c68)] fun a HF => ?_
  refine qb rfl ?_
  have hn68 : ((putUp b e k).length) + ((vbytes x).length) = (putUp b e (k + 1)).length := by rw [qir hx]; simp
  rw [hn68] at HM hc68
  rw [show ((putUp b e k).map B8) ++ ((vbytes x).map B8) = (putUp b e (k + 1)).map B8 from by rw [qir hx, List.map_append]] at HM
  replace HF := HF.as (t := 8) (u := .slice A68 ((putUp b e (k + 1)).length) c68) rfl (by rw [hn68])
  replace HF := HF.as (t := 68) (u := .slice A68 ((putUp b e (k + 1)).length) c68) rfl (by rw [hn68])
  refine qa ?_
  refine fp HF 2 0 [(61, vI (IntKind.i64.wrap ((k : Int) + 1)))] fun a HF => ?_
  replace HF := HF.sp 61 (vI (k + 1 : Nat)) rfl (by rw [IntWalk.i64_in _ (by omega)]; simp)
  refine fp HF 1 2 [(9, vI (k + 1 : Nat))] fun a HF => ?_
  refine qb rfl ?_
  exact ⟨_, (by omega), k + 1, A68, c68, hk59, hc68, rfl, HF.sub (by kernel_rfl), HM.picks [1, 2, 3, 4] (by decide) rfl⟩
 obtain rfl : k = e.vals.length := by rw [hov] at hb59 hk; simp only [decide_eq_false_iff_not] at hb59; omega
 refine qd HF rfl (wp_exit (wp_seq (qa ?_)))
 refine fp HF 3 0 [(5, vI 0), (4, .slice Ak ((putUp b e e.vals.length).length) ck)] fun a HF => ?_
 refine qb rfl (wp_ret ?_)
 exact ret2 rfl HF (.tmp HF rfl) (.tmp HF rfl) (⟨⟨Ak, ck, by rw [qeq hgood hrb, qhj hgood hrb, ← qhh]; rfl, by rw [qeq hgood hrb, ← qhh]; exact HM.own (i := 0) rfl, by rw [qeq hgood hrb, ← qhh]; exact hck⟩, HM.below⟩)
theorem qfc (A : Option Addr) (n c : Nat) (l : List Ev) (hok : ∀ e ∈ l, e.Ok) (w : World) (hr : Rd w w.heap.size 11 A n (l.flatMap evL)) (hn : n ≤ 140737488355328) (hln : l.length = n) :
    Calls Tryd.prog 70 #[.slice A n c] w (RowPost w (rowR l)) := by
 refine qg (vs := [.slice A n c]) Tryd.func70 rfl rfl (by kernel_rfl) (σ0 := [(0, .slice A n c)]) rfl ?_
 intro a HF
 have HM := Mem.start w
 refine wp_seq (qa ?_)
 refine fp HF 2 0 [(3, vI 0), (2, vI 0)] fun a HF => ?_
 refine qb rfl (wp_seq (wp_seq (qa ?_)))
 refine fp HF 1 0 [(4, vI 0)] fun a HF => ?_
 refine qb rfl (wp_block ?_)
 refine qs (fun mS aS wS => ∃ (k : Nat), (k ≤ n) ∧ (rowR l = rowGo (qa9 l k) k (l.drop k)) ∧ mS = n - k ∧ Fr aS 66 [] [(4, vI k), (3, vI 0), (2, vI 0), (0, .slice A n c)] ∧ Mem w wS []) (m := n - 0) ⟨0, Nat.zero_le _, rfl, rfl, HF.sub (by kernel_rfl), HM.picks [] (by decide) rfl⟩ ?_
 clear HF HM; rintro mS a w_ ⟨k, hk, hj, rfl, HF, HM⟩
 refine wp_seq (wp_seq (qa ?_))
 refine fp HF 2 0 [(7, .slice A n c), (6, vI k)] fun a HF => ?_
 refine fy HF HM 2 rfl rfl rfl (Yl.len rfl rfl (by kernel_rfl)) fun a HF => ?_
 refine fp HF 1 3 [(9, .bool (decide ((k : Int) < (n : Int))))] fun a HF => ?_
 refine qb rfl ?_
 rcases HF.tf 9 rfl with ⟨hb9, HF⟩ | ⟨hb9, HF⟩
 ·
  have hk9 : k < n := by simp at hb9; omega
  obtain ⟨e, hke⟩ : ∃ e, l[k]? = some e := ⟨_, List.getElem?_eq_getElem (by omega)⟩
  have hgo := qor hke
  refine qe HF rfl (wp_skip (wp_seq (wp_block (wp_seq (wp_seq (qa ?_))))))
  refine fp HF 2 0 [(13, vI k), (12, .slice A n c)] fun a HF => ?_
  obtain ⟨gA, oA, rfl, _⟩ := hr.zm (Nat.lt_of_le_of_lt (Nat.zero_le _) (show k < n from hk9)) (by decide)
  refine fy HF HM 2 rfl rfl rfl (v := vP gA (oA + k * 11)) (Yl.ix gA oA k 11 rfl rfl rfl (hk9)) fun a HF => ?_
  refine fy HF HM 3 rfl rfl rfl (v := .agg e.cells) (Yl.zl rfl rfl ⟨(by kernel_rfl), (by kernel_rfl)⟩ rfl (fun _ h => (h.old hr).qad qy (hke))) fun a HF => ?_
  refine fo HF 4 rfl rfl ?_
  refine e_cl HF [.agg e.cells] rfl rfl (qhg e (hok e (List.mem_of_getElem? hke)) _) ?_
  rintro _ w16 ⟨rfl, hbw⟩
  refine ⟨_, rfl, ?_⟩
  replace HM := HM.call hbw
  clear HF; intro a HF
  refine fp HF 1 5 [(5, vI e.check)] fun a HF => ?_
  refine qb rfl (wp_seq (qa ?_))
  refine fp HF 2 0 [(18, .bool ((e.check : Int) != (0 : Int)))] fun a HF => ?_
  refine qb rfl ?_
  rcases HF.tf 18 rfl with ⟨hb18, HF⟩ | ⟨hb18, HF⟩
  ·
   have hcb : e.check ≠ 0 := by rw [bne_iff_ne] at hb18; omega
   rw [if_pos hcb] at hgo
   refine qe HF rfl (wp_seq (qa ?_))
   refine fp HF 4 0 [(3, vI e.check), (2, vI k)] fun a HF => ?_
   refine qb rfl (wp_ret ?_)
   exact ret2 rfl HF (.tmp HF rfl) (.tmp HF rfl) (⟨by rw [hj, hgo]; (try rfl), HM.below⟩)
  have hcg : ¬ e.check ≠ 0 := by rw [bne_eq_false_iff_eq] at hb18; omega
  rw [if_neg hcg] at hgo
  refine qd HF rfl (wp_skip ?_)
  refine qaq (fun aS wS => Fr aS 66 [] [(64, .bool (!(qa9 l k).all (fun q => e.after q))), (18, .bool false), (5, vI e.check), (9, .bool true), (4, vI k), (3, vI 0), (2, vI 0), (0, .slice (some ⟨gA, oA, none⟩) n c)] ∧ Mem w wS []) ?_ ?_
  ·
   refine qac HM [] [] [] fun HM HS => ?_
   refine ap HF (fun _ => HS) [0, 1, 2] #[true, true, true, false, false, false, false, false, false, false, false, false, false, false, false, false, false, false, false, false, false, false, false, false, false, false, false, false, false, false, false, false, false, false, false, false, false, false, false, false, false, false, false, false] [(23, .bool (decide ((k : Int) > (0 : Int))))] fun a HF => ?_
   rcases HF.tf 23 rfl with ⟨hb23, HF⟩ | ⟨hb23, HF⟩
   ·
    have hk0 : 0 < k := by simp at hb23; omega
    obtain ⟨q, hq⟩ : ∃ q, l[k - 1]? = some q := ⟨_, List.getElem?_eq_getElem (by omega)⟩
    have hpv : qa9 l k = some q := by rw [← hq, show k = (k - 1) + 1 by omega]; rfl
    refine ap HF (fun _ => HS) [3, 4, 8, 9] #[true, true, true, true, true, false, false, false, true, true, false, false, false, false, false, false, false, false, false, false, false, false, false, false, false, false, false, false, false, false, false, false, false, false, false, false, false, false, false, false, false, false, false, false] [(30, vI k), (29, .slice (some ⟨gA, oA, none⟩) n c), (25, vI k), (24, .slice (some ⟨gA, oA, none⟩) n c)] fun a HF => ?_
    refine ay HF HS 5 rfl rfl rfl (v := vP gA (oA + k * 11)) (Yl.ix gA oA k 11 rfl rfl rfl (hk9)) fun a HF => ?_
    refine ap HF (fun _ => HS) [6] #[true, true, true, true, true, true, true, false, true, true, false, false, false, false, false, false, false, false, false, false, false, false, false, false, false, false, false, false, false, false, false, false, false, false, false, false, false, false, false, false, false, false, false, false] [(27, vP gA (oA + k * 11 + 2))] fun a HF => ?_
    refine ay HF HS 7 rfl rfl rfl (v := vB e.cpu) (Yl.qh rfl rfl (by kernel_rfl) (fun _ h => (h.old hr).partAt qy (k := k) (j := 2) (x := e) (hke) rfl)) fun a HF => ?_
    refine zg HF (fun _ => HS) (i := 10) rfl rfl (d := 31) rfl (by decide) (by kernel_rfl) (fun _ _ _ h => h) (v := vI (IntKind.i64.wrap ((k : Int) - 1))) (fun _ => Yl.pure (by kernel_rfl)) fun a HF => ?_
    replace HF := HF.sp 31 (vI (k - 1 : Nat)) rfl (by rw [IntWalk.i64_in _ (by omega)]; congr 1; omega)
    refine ay HF HS 11 rfl rfl rfl (v := vP gA (oA + (k - 1) * 11)) (Yl.ix gA oA (k - 1) 11 rfl rfl rfl) fun a HF => ?_
    refine ap HF (fun _ => HS) [12] #[true, true, true, true, true, true, true, true, true, true, true, true, true, false, false, false, false, false, false, false, false, false, false, false, false, false, false, false, false, false, false, false, false, false, false, false, false, false, false, false, false, false, false, false] [(33, vP gA (oA + (k - 1) * 11 + 2))] fun a HF => ?_
    refine ay HF HS 13 rfl rfl rfl (v := vB q.cpu) (Yl.qh rfl rfl (by kernel_rfl) (fun _ h => (h.old hr).partAt qy (k := (k - 1)) (j := 2) (x := q) (hq) rfl)) fun a HF => ?_
    refine ap HF (fun _ => HS) [14, 15] #[true, true, true, true, true, true, true, true, true, true, true, true, true, true, true, true, false, false, false, false, false, false, false, false, false, false, false, false, false, false, false, false, false, false, false, false, false, false, false, false, false, false, false, false] [(36, .bool ((e.cpu : Int) != (q.cpu : Int)))] fun a HF => ?_
    rcases HF.tf 36 rfl with ⟨hb36, HF⟩ | ⟨hb36, HF⟩
    ·
     refine ap HF (fun _ => HS) [16, 17, 18, 19, 20, 21, 22, 23, 24, 25, 26, 27, 28, 29, 30, 31, 32, 33, 34, 35, 36, 37, 38, 39, 40, 41, 42, 43] #[true, true, true, true, true, true, true, true, true, true, true, true, true, true, true, true, true, true, true, true, true, true, true, true, true, true, true, true, true, true, true, true, true, true, true, true, true, true, true, true, true, true, true, true] [(64, .bool true)] fun a HF => ?_
     refine ql (by kernel_rfl) ?_
     have HF := HF.as (t := 64) (u := .bool (!(qa9 l k).all (fun q => e.after q))) rfl (congrArg Value.bool (by rw [hpv]; (try simp at hb9); (try simp at hb18); (try simp at hb23); (try simp at hb36); rw [Bool.eq_iff_iff]; simp [Ev.after]; try omega))
     exact ⟨HF.sub (by kernel_rfl), HM.picks [] (by decide) rfl⟩
    refine ap HF (fun _ => HS) [16, 17, 21, 22] #[true, true, true, true, true, true, true, true, true, true, true, true, true, true, true, true, true, true, false, false, false, true, true, false, false, false, false, false, false, false, false, false, false, false, false, false, false, false, false, false, false, false, false, false] [(43, vI k), (42, .slice (some ⟨gA, oA, none⟩) n c), (38, vI k), (37, .slice (some ⟨gA, oA, none⟩) n c)] fun a HF => ?_
    refine ay HF HS 18 rfl rfl rfl (v := vP gA (oA + k * 11)) (Yl.ix gA oA k 11 rfl rfl rfl (hk9)) fun a HF => ?_
    refine ap HF (fun _ => HS) [19] #[true, true, true, true, true, true, true, true, true, true, true, true, true, true, true, true, true, true, true, true, false, true, true, false, false, false, false, false, false, false, false, false, false, false, false, false, false, false, false, false, false, false, false, false] [(40, vP gA (oA + k * 11))] fun a HF => ?_
    refine ay HF HS 20 rfl rfl rfl (v := vI e.seq) (Yl.qh rfl rfl (by kernel_rfl) (fun _ h => (by have := (h.old hr).partAt qy (k := k) (j := 0) (x := e) (hke) rfl; simpa using this))) fun a HF => ?_
    refine zg HF (fun _ => HS) (i := 23) rfl rfl (d := 44) rfl (by decide) (by kernel_rfl) (fun _ _ _ h => h) (v := vI (IntKind.i64.wrap ((k : Int) - 1))) (fun _ => Yl.pure (by kernel_rfl)) fun a HF => ?_
    replace HF := HF.sp 44 (vI (k - 1 : Nat)) rfl (by rw [IntWalk.i64_in _ (by omega)]; congr 1; omega)
    refine ay HF HS 24 rfl rfl rfl (v := vP gA (oA + (k - 1) * 11)) (Yl.ix gA oA (k - 1) 11 rfl rfl rfl) fun a HF => ?_
    refine ap HF (fun _ => HS) [25] #[true, true, true, true, true, true, true, true, true, true, true, true, true, true, true, true, true, true, true, true, true, true, true, true, true, true, false, false, false, false, false, false, false, false, false, false, false, false, false, false, false, false, false, false] [(46, vP gA (oA + (k - 1) * 11))] fun a HF => ?_
    refine ay HF HS 26 rfl rfl rfl (v := vI q.seq) (Yl.qh rfl rfl (by kernel_rfl) (fun _ h => (by have := (h.old hr).partAt qy (k := (k - 1)) (j := 0) (x := q) (hq) rfl; simpa using this))) fun a HF => ?_
    refine ap HF (fun _ => HS) [27, 28, 29] #[true, true, true, true, true, true, true, true, true, true, true, true, true, true, true, true, true, true, true, true, true, true, true, true, true, true, true, true, true, true, false, false, false, false, false, false, false, false, false, false, false, false, false, false] [(50, .bool (decide ((e.seq : Int) ≤ (q.seq : Int))))] fun a HF => ?_
    rcases HF.tf 50 rfl with ⟨hb50, HF⟩ | ⟨hb50, HF⟩
    ·
     refine ap HF (fun _ => HS) [30, 31, 32, 33, 34, 35, 36, 37, 38, 39, 40, 41, 42, 43] #[true, true, true, true, true, true, true, true, true, true, true, true, true, true, true, true, true, true, true, true, true, true, true, true, true, true, true, true, true, true, true, true, true, true, true, true, true, true, true, true, true, true, true, true] [(64, .bool true)] fun a HF => ?_
     refine ql (by kernel_rfl) ?_
     have HF := HF.as (t := 64) (u := .bool (!(qa9 l k).all (fun q => e.after q))) rfl (congrArg Value.bool (by rw [hpv]; (try simp at hb9); (try simp at hb18); (try simp at hb23); (try simp at hb36); (try simp at hb50); rw [Bool.eq_iff_iff]; simp [Ev.after]; try omega))
     exact ⟨HF.sub (by kernel_rfl), HM.picks [] (by decide) rfl⟩
    refine ap HF (fun _ => HS) [30, 31, 35, 36] #[true, true, true, true, true, true, true, true, true, true, true, true, true, true, true, true, true, true, true, true, true, true, true, true, true, true, true, true, true, true, true, true, false, false, false, true, true, false, false, false, false, false, false, false] [(57, vI k), (56, .slice (some ⟨gA, oA, none⟩) n c), (52, vI k), (51, .slice (some ⟨gA, oA, none⟩) n c)] fun a HF => ?_
    refine ay HF HS 32 rfl rfl rfl (v := vP gA (oA + k * 11)) (Yl.ix gA oA k 11 rfl rfl rfl (hk9)) fun a HF => ?_
    refine ap HF (fun _ => HS) [33] #[true, true, true, true, true, true, true, true, true, true, true, true, true, true, true, true, true, true, true, true, true, true, true, true, true, true, true, true, true, true, true, true, true, true, false, true, true, false, false, false, false, false, false, false] [(54, vP gA (oA + k * 11 + 1))] fun a HF => ?_
    refine ay HF HS 34 rfl rfl rfl (v := vI e.time) (Yl.qh rfl rfl (by kernel_rfl) (fun _ h => (h.old hr).partAt qy (k := k) (j := 1) (x := e) (hke) rfl)) fun a HF => ?_
    refine zg HF (fun _ => HS) (i := 37) rfl rfl (d := 58) rfl (by decide) (by kernel_rfl) (fun _ _ _ h => h) (v := vI (IntKind.i64.wrap ((k : Int) - 1))) (fun _ => Yl.pure (by kernel_rfl)) fun a HF => ?_
    replace HF := HF.sp 58 (vI (k - 1 : Nat)) rfl (by rw [IntWalk.i64_in _ (by omega)]; congr 1; omega)
    refine ay HF HS 38 rfl rfl rfl (v := vP gA (oA + (k - 1) * 11)) (Yl.ix gA oA (k - 1) 11 rfl rfl rfl) fun a HF => ?_
    refine ap HF (fun _ => HS) [39] #[true, true, true, true, true, true, true, true, true, true, true, true, true, true, true, true, true, true, true, true, true, true, true, true, true, true, true, true, true, true, true, true, true, true, true, true, true, true, true, true, false, false, false, false] [(60, vP gA (oA + (k - 1) * 11 + 1))] fun a HF => ?_
    refine ay HF HS 40 rfl rfl rfl (v := vI q.time) (Yl.qh rfl rfl (by kernel_rfl) (fun _ h => (h.old hr).partAt qy (k := (k - 1)) (j := 1) (x := q) (hq) rfl)) fun a HF => ?_
    refine ap HF (fun _ => HS) [41, 42, 43] #[true, true, true, true, true, true, true, true, true, true, true, true, true, true, true, true, true, true, true, true, true, true, true, true, true, true, true, true, true, true, true, true, true, true, true, true, true, true, true, true, true, true, true, true] [(64, .bool (decide ((e.time : Int) < (q.time : Int))))] fun a HF => ?_
    refine ql (by kernel_rfl) ?_
    replace HF := HF.to [(64, .bool (decide ((e.time : Int) < (q.time : Int)))), (18, .bool false), (5, vI e.check), (9, .bool true), (4, vI k), (3, vI 0), (2, vI 0), (0, .slice (some ⟨gA, oA, none⟩) n c)]
    have HF := HF.as (t := 64) (u := .bool (!(qa9 l k).all (fun q => e.after q))) rfl (congrArg Value.bool (by rw [hpv]; (try simp at hb9); (try simp at hb18); (try simp at hb23); (try simp at hb36); (try simp at hb50); rw [Bool.eq_iff_iff]; simp [Ev.after]; try omega))
    exact ⟨HF.sub (by kernel_rfl), HM.picks [] (by decide) rfl⟩
   have hpv : qa9 l k = none := by rw [show k = 0 by simp at hb23; omega]; rfl
   refine ap HF (fun _ => HS) [3, 4, 5, 6, 7, 8, 9, 10, 11, 12, 13, 14, 15, 16, 17, 18, 19, 20, 21, 22, 23, 24, 25, 26, 27, 28, 29, 30, 31, 32, 33, 34, 35, 36, 37, 38, 39, 40, 41, 42, 43] #[true, true, true, true, true, true, true, true, true, true, true, true, true, true, true, true, true, true, true, true, true, true, true, true, true, true, true, true, true, true, true, true, true, true, true, true, true, true, true, true, true, true, true, true] [(64, .bool false)] fun a HF => ?_
   refine ql (by kernel_rfl) ?_
   have HF := HF.as (t := 64) (u := .bool (!(qa9 l k).all (fun q => e.after q))) rfl (congrArg Value.bool (by rw [hpv]; (try simp at hb9); (try simp at hb18); (try simp at hb23); rw [Bool.eq_iff_iff]; simp [Ev.after]; try omega))
   exact ⟨HF.sub (by kernel_rfl), HM.picks [] (by decide) rfl⟩
  clear HF HM; rintro a w7 ⟨HF, HM⟩
  rcases HF.tf 64 rfl with ⟨hb64, HF⟩ | ⟨hb64, HF⟩
  ·
   rw [if_pos (by simpa using hb64)] at hgo
   refine qe HF rfl (wp_seq (qa ?_))
   refine fp HF 3 0 [(3, vI 71), (2, vI k)] fun a HF => ?_
   refine qb rfl (wp_ret ?_)
   exact ret2 rfl HF (.tmp HF rfl) (.tmp HF rfl) (⟨by rw [hj, hgo]; (try rfl), HM.below⟩)
  rw [if_neg (by simpa using hb64)] at hgo
  refine qd HF rfl (wp_skip (qa ?_))
  refine fp HF 2 0 [(11, vI (IntKind.i64.wrap ((k : Int) + 1)))] fun a HF => ?_
  replace HF := HF.sp 11 (vI (k + 1 : Nat)) rfl (by rw [IntWalk.i64_in _ (by omega)]; simp)
  refine fp HF 1 2 [(4, vI (k + 1 : Nat))] fun a HF => ?_
  refine qb rfl ?_
  exact ⟨_, (by omega), k + 1, by omega, hj.trans hgo, rfl, HF.sub (by kernel_rfl), HM.picks [] (by decide) rfl⟩
 have hk9 : k = n := by simp at hb9; omega
 refine qd HF rfl (wp_exit (wp_seq (qa ?_)))
 refine fp HF 2 0 [(3, vI 0), (2, vI (-1))] fun a HF => ?_
 refine qb rfl (wp_ret ?_)
 exact ret2 rfl HF (.tmp HF rfl) (.tmp HF rfl) (⟨by rw [hj, hk9, List.drop_eq_nil_of_le (by omega)]; cases qa9 l n <;> rfl, HM.below⟩)
structure It where
 e : Ev
 before : Int
structure It.Ok (x : It) : Prop where
 e : x.e.Ok
 before : I64 x.before
def It.cells (x : It) : Array Value := #[.int .i64 x.e.seq, .int .i64 x.e.time, .int .u8 (x.e.cpu : Int), .int .u8 (x.e.kind : Int), .int .i64 x.e.task, .int .i64 x.e.group, .int .i64 x.e.to, .int .i64 x.e.weight, .int .i64 x.e.ticks, .int .u64 (x.e.mask : Int), .int .i64 x.e.got, .int .i64 x.before]
def itL (x : It) : List Value := x.cells.toList
theorem qab (x : It) : (itL x).length = 12 := rfl
def evsI (l : List It) : List Ev := l.map It.e
def befI (l : List It) : List Int := l.map It.before
def qat : Int → List Int → Bool
 | _, [] => true
 | r, n :: t => decide (0 ≤ n ∧ n ≤ r) && qat (r - n) t
def qdq : Int := 281474976710656
def cpuOk (cpu : Nat) : List It → Bool
 | [] => true
 | x :: _ => decide (x.e.cpu = cpu)
def zr (cpu : Nat) (l : List It) (opn : Int) : Bool := decide ((rowR (evsI l)).2 = 0) && (qat qdq (opn :: befI l) && cpuOk cpu l)
def sumI : List Int → Int
 | [] => 0
 | n :: t => n + sumI t
def ofB (cpu : Nat) (l : List It) (opn : Int) (n : Nat) : Bk := ⟨1, cpu, sumI (befI (l.take n)) + (if n = l.length then opn else 0), 0, evsI (l.take n)⟩
def qam (p : Nat → Bool) : Nat → Nat
 | 0 => 0
 | n + 1 => if p (n + 1) = true then n + 1 else qam p n
def cutN (cpu : Nat) (l : List It) (opn : Int) (limit : Nat) : Nat := qam (fun n => decide ((ofB cpu l opn n).err = 0)) (min l.length limit)
def cutGo (cpu : Nat) (opn : Int) (limit : Nat) : Nat → List It → List Bk
 | 0, _ => []
 | f + 1, l => if l.length = 0 then [] else ofB cpu l opn (cutN cpu l opn limit) :: cutGo cpu opn limit f (l.drop (cutN cpu l opn limit))
def cutS (cpu : Nat) (l : List It) (opn : Int) (limit : Int) : List Bk × Nat :=
 if 64 ≤ cpu ∨ limit < 1 ∨ 4096 < limit then ([], 2)
 else if zr cpu l opn = false then ([], 110)
 else if l.length = 0 then ((if opn = 0 then [] else [⟨1, cpu, opn, 0, []⟩]), 0)
 else (cutGo cpu opn limit.toNat l.length l, 0)
theorem qij : ∀ {l : List Int} {r : Int}, qat r l = true → ∀ n ∈ l, 0 ≤ n ∧ n ≤ r
 | [], _, _, n, hn => by cases hn
 | x :: t, r, h, n, hn => by
  simp only [qat, Bool.and_eq_true, decide_eq_true_eq] at h
  rcases List.mem_cons.1 hn with rfl | hn
  ·exact h.1
  ·have := qij h.2 n hn
   omega
theorem qik : ∀ {l : List Int} {r : Int}, 0 ≤ r → qat r l = true → 0 ≤ sumI l ∧ sumI l ≤ r
 | [], r, hr, _ => ⟨Int.le_refl _, hr⟩
 | x :: t, r, hr, h => by
  simp only [qat, Bool.and_eq_true, decide_eq_true_eq] at h
  have := qik (by omega) h.2
  simp only [sumI]
  omega
theorem qgi : ∀ (a b : List Int), sumI (a ++ b) = sumI a + sumI b
 | [], b => by simp [sumI]
 | x :: a, b => by simp only [List.cons_append, sumI, qgi a b]; omega
theorem qb9 (p : Nat → Bool) : ∀ n, qam p n ≤ n
 | 0 => Nat.le_refl _
 | n + 1 => by
  rw [qam]
  split
  ·exact Nat.le_refl _
  ·exact Nat.le_succ_of_le (qb9 p n)
theorem qg7 (p : Nat → Bool) : ∀ n, 0 < qam p n → p (qam p n) = true
 | 0, h => by simp [qam] at h
 | n + 1, h => by
  rw [qam] at h ⊢
  split
  ·rename_i hp; exact hp
  ·rename_i hp
   rw [if_neg hp] at h
   exact qg7 p n h
theorem qfw (p : Nat → Bool) (h1 : p 1 = true) : ∀ n, 0 < n → 0 < qam p n
 | 0, h => by omega
 | n + 1, _ => by
  rw [qam]
  split
  ·omega
  ·rename_i hp
   cases n with
   | zero => exact absurd h1 hp
   | succ m => exact qfw p h1 (m + 1) (by omega)
theorem qg8 (p : Nat → Bool) : ∀ {n k : Nat}, k ≤ n → (∀ m, k < m → m ≤ n → p m = false) → qam p n = qam p k
 | 0, k, h, _ => by
  have : k = 0 := by omega
  subst this; rfl
 | n + 1, k, h, hno => by
  by_cases hk : k = n + 1
  ·subst hk; rfl
  ·rw [qam, if_neg (by rw [hno (n + 1) (by omega) (Nat.le_refl _)]; decide)]
   exact qg8 p (by omega) (fun m h1 h2 => hno m h1 (by omega))
theorem qkn {cpu : Nat} : ∀ (l : List Ev) (p : Option Ev) (b : Bs) (k : Nat), Chain cpu p b l → ∃ b', Chain cpu none b' (l.drop k)
 | [], _, b, k, _ => ⟨b, by rw [List.drop_nil]; trivial⟩
 | e :: r, p, b, 0, h => ⟨b, h.1, h.2.1, (fun q hq => by cases hq), h.2.2.2⟩
 | e :: r, _, _, k + 1, h => qkn r (some e) e.at k h.2.2.2
theorem qfa (l : List It) (n : Nat) : evsI (l.take n) = (evsI l).take n := by unfold evsI; rw [List.map_take]
theorem qrb (l : List It) (n : Nat) : evsI (l.drop n) = (evsI l).drop n := by unfold evsI; rw [List.map_drop]
theorem qd6 (l : List It) : (evsI l).length = l.length := by unfold evsI; rw [List.length_map]
theorem qfx (l : List It) (n : Nat) : sumI (befI l) = sumI (befI (l.take n)) + sumI (befI (l.drop n)) := by
 unfold befI
 rw [List.map_take, List.map_drop, ← qgi, List.take_append_drop]
theorem qg9 : ∀ {l : List Int}, (∀ n ∈ l, 0 ≤ n) → 0 ≤ sumI l
 | [], _ => Int.le_refl _
 | x :: t, h => by
  have h1 := h x List.mem_cons_self
  have h2 := qg9 (l := t) (fun n hn => h n (List.mem_cons_of_mem _ hn))
  simp only [sumI]
  omega
structure GoodI (cpu : Nat) (l : List It) (opn : Int) : Prop where
 c64 : cpu < 64
 chain : ∃ b, Chain cpu none b (evsI l)
 ok : ∀ x ∈ l, x.Ok
 o0 : 0 ≤ opn
 bef : ∀ x ∈ l, 0 ≤ x.before
 sum : opn + sumI (befI l) ≤ 281474976710656
theorem qca {l : List It} (h : ∀ x ∈ l, 0 ≤ x.before) : 0 ≤ sumI (befI l) := qg9 fun n hn => by
 unfold befI at hn
 obtain ⟨x, hx, rfl⟩ := List.mem_map.1 hn
 exact h x hx
theorem GoodI.drop {cpu : Nat} {l : List It} {opn : Int} (h : GoodI cpu l opn) (k : Nat) : GoodI cpu (l.drop k) opn := by
 obtain ⟨b, hb⟩ := h.chain
 have h1 := qfx l k
 have h2 := qca (l := l.take k) (fun x hx => h.bef x (List.mem_of_mem_take hx))
 have h3 := h.sum
 exact ⟨h.c64, by rw [qrb]; exact qkn _ _ _ k hb, fun x hx => h.ok x (List.mem_of_mem_drop hx), h.o0, fun x hx => h.bef x (List.mem_of_mem_drop hx), by omega⟩
theorem GoodI.of {cpu : Nat} {l : List It} {opn : Int} (hc : cpu < 64) (hok : ∀ x ∈ l, x.Ok) (h : zr cpu l opn = true) : GoodI cpu l opn := by
 unfold zr at h
 simp only [Bool.and_eq_true, decide_eq_true_eq] at h
 obtain ⟨h1, h2, h3⟩ := h
 have hr := h2
 simp only [qat, Bool.and_eq_true, decide_eq_true_eq] at hr
 have hs := qik (r := qdq - opn) (by omega) hr.2
 have hm : qdq = 281474976710656 := rfl
 refine ⟨hc, ?_, hok, hr.1.1, ?_, by omega⟩
 ·cases l with
  | nil => exact ⟨⟨0, 0⟩, trivial⟩
  | cons x r =>
   have hev : ∀ e ∈ evsI (x :: r), e.Ok := fun e he => by
    unfold evsI at he
    obtain ⟨y, hy, rfl⟩ := List.mem_map.1 he
    exact (hok y hy).e
   have hx : x.e.check = 0 := qm8 h1 rfl
   have hcp : x.e.cpu = cpu := by simpa [cpuOk] using h3
   refine ⟨x.e.at, qdn (evsI (x :: r)) none x.e.at 0 hev (qgg hx) ?_ (fun q hq => by cases hq) h1⟩
   intro y hy
   have : y = x.e := by simpa [evsI] using hy.symm
   subst this
   exact ⟨qgx _, hcp⟩
 ·intro x hx
  exact (qij hr.2 x.before (List.mem_map_of_mem hx)).1
theorem qbh {cpu : Nat} {l : List It} {opn : Int} {n : Nat} (hn : n ≤ l.length) : (ofB cpu l opn n).evs.length = n := by
 show (evsI (l.take n)).length = n
 rw [qd6, List.length_take]
 omega
theorem qjm {cpu : Nat} {l : List It} {opn : Int} (h : GoodI cpu l opn) (n : Nat) : 0 ≤ (ofB cpu l opn n).lost ∧ (ofB cpu l opn n).lost ≤ 281474976710656 := by
 have h1 := qfx l n
 have h2 := qca (l := l.take n) (fun x hx => h.bef x (List.mem_of_mem_take hx))
 have h3 := qca (l := l.drop n) (fun x hx => h.bef x (List.mem_of_mem_drop hx))
 have h4 := h.sum
 have h5 := h.o0
 show 0 ≤ sumI (befI (l.take n)) + (if n = l.length then opn else 0) ∧ sumI (befI (l.take n)) + (if n = l.length then opn else 0) ≤ _
 split <;> omega
theorem qrc {cpu : Nat} {l : List It} {opn : Int} (h : GoodI cpu l opn) (n : Nat) : (ofB cpu l opn n).Ok := by
 have := qjm h n
 refine ⟨by show 1 < 256; decide, by have := h.c64; show cpu < 256; omega, ⟨by omega, by omega⟩, by show I64 0; exact ⟨by decide, by decide⟩, fun e he => ?_⟩
 have he : e ∈ evsI (l.take n) := he
 unfold evsI at he
 obtain ⟨y, hy, rfl⟩ := List.mem_map.1 he
 exact (h.ok y (List.mem_of_mem_take hy)).e
theorem qha {cpu : Nat} {b : Bs} {l : List Ev} (h : Chain cpu none b l) : (rowR l).2 = 0 := by
 cases l with
 | nil => rfl
 | cons e r =>
  have hr : b.right = true := h.1.right
  rw [(qke hr h).1]
theorem qth {cpu : Nat} {l : List It} {opn : Int} (h : GoodI cpu l opn) {n : Nat} (h1 : 0 < n) (h2 : n ≤ l.length) : (ofB cpu l opn n).fits = true := by
 obtain ⟨b, hb⟩ := h.chain
 have hl := qjm h n
 have hlen := qbh (cpu := cpu) (opn := opn) h2
 have hc : Chain cpu none b (evsI (l.take n)) := by rw [qfa]; exact qg6 _ _ _ n hb
 rw [qe9 (b := ofB cpu l opn n) rfl (by show cpu ≤ 63; have := h.c64; omega) hl.1 hl.2 rfl (by rw [hlen]; omega), decide_eq_true_eq]
 ·exact qha hc
 ·intro k hk
  exact qe7 _ _ _ hc _ (qaz Ev.zero hk)
theorem qti {cpu : Nat} {l : List It} {opn : Int} {n : Nat} (h1 : 0 < n) (h2 : n ≤ l.length) : 12 + (ofB cpu l opn n).body.length = Bk.sz ⟨1, cpu, (ofB cpu l opn n).lost, 0, evsI l⟩ n + (vbytes n).length := by
 have h := qq8 (b := ⟨1, cpu, (ofB cpu l opn n).lost, 0, evsI l⟩) rfl h1 (by show n ≤ (evsI l).length; rw [qd6]; exact h2)
 have e : Bk.upto ⟨1, cpu, (ofB cpu l opn n).lost, 0, evsI l⟩ n = ofB cpu l opn n := by
  unfold Bk.upto
  show (⟨1, cpu, (ofB cpu l opn n).lost, 0, (evsI l).take n⟩ : Bk) = ⟨1, cpu, _, 0, evsI (l.take n)⟩
  rw [qfa]
  rfl
 rwa [e] at h
theorem qu8 {cpu : Nat} {lo lo' : Int} {es : List Ev} {n : Nat} (h : lo ≤ lo') : Bk.sz ⟨1, cpu, lo, 0, es⟩ n ≤ Bk.sz ⟨1, cpu, lo', 0, es⟩ n := by
 have h1 := qii (x := lo.toNat) (y := lo'.toNat) (by omega)
 have hb : Bk.base ⟨1, cpu, lo, 0, es⟩ = Bk.base ⟨1, cpu, lo', 0, es⟩ := rfl
 unfold Bk.sz
 simp only [hb]
 generalize (vbytes cpu).length = a1
 generalize Bk.base ⟨1, cpu, lo', 0, es⟩ = q
 generalize (vbytes q.seq.toNat).length = a2
 generalize (vbytes q.time.toNat).length = a3
 generalize (recs q (List.take n es)).length = a4
 omega
theorem qu9 {cpu : Nat} {lo : Int} {es : List Ev} {m n : Nat} (h0 : 0 < n) (h : n ≤ m) : Bk.sz ⟨1, cpu, lo, 0, es.take m⟩ n = Bk.sz ⟨1, cpu, lo, 0, es⟩ n := by
 have hb : Bk.base ⟨1, cpu, lo, 0, es.take m⟩ = Bk.base ⟨1, cpu, lo, 0, es⟩ := by
  unfold Bk.base
  cases es with
  | nil => simp
  | cons e r =>
   cases m with
   | zero => omega
   | succ j => rfl
 unfold Bk.sz
 rw [hb]
 show 12 + _ + _ + _ + _ + (recs _ ((es.take m).take n)).length = 12 + _ + _ + _ + _ + (recs _ (es.take n)).length
 rw [List.take_take, Nat.min_eq_left h]
theorem qrd {cpu : Nat} {l : List It} {opn : Int} (h : GoodI cpu l opn) {n : Nat} (h1 : 0 < n) (h2 : n ≤ l.length) : (ofB cpu l opn n).err = 0 ↔ Bk.sz ⟨1, cpu, (ofB cpu l opn n).lost, 0, evsI l⟩ n + (vbytes n).length ≤ 4096 := by
 have hs := qti (cpu := cpu) (opn := opn) h1 h2
 unfold Bk.err
 rw [if_neg (by rw [qth h h1 h2]; decide), hs]
 split <;> omega
theorem qdr (p : Nat → Bool) : ∀ n m, qam p n < m → m ≤ n → p m = false
 | 0, m, h1, h2 => by omega
 | n + 1, m, h1, h2 => by
  rw [qam] at h1
  split at h1
  ·omega
  ·rename_i hp
   by_cases hm : m = n + 1
   ·subst hm; simpa using hp
   ·exact qdr p n m h1 (by omega)
def mostB (cpu : Nat) (l : List It) (m : Nat) : Bk := ⟨1, cpu, 0, 0, evsI (l.take m)⟩
theorem qil {cpu : Nat} {l : List It} {opn : Int} (h : GoodI cpu l opn) {m : Nat} (h0 : 0 < m) (hm : m ≤ l.length) : (mostB cpu l m).fits = true ∧ (mostB cpu l m).Ok ∧ (mostB cpu l m).qeb ≤ m ∧ 0 < (mostB cpu l m).qeb ∧ ∀ n, (mostB cpu l m).qeb < n → n ≤ m → (ofB cpu l opn n).err ≠ 0 := by
 obtain ⟨b, hb⟩ := h.chain
 have hc : Chain cpu none b (evsI (l.take m)) := by rw [qfa]; exact qg6 _ _ _ m hb
 have hlen : (mostB cpu l m).evs.length = m := by show (evsI (l.take m)).length = m; rw [qd6, List.length_take]; omega
 have hbig : ∀ n, 0 < n → n ≤ m → ((mostB cpu l m).big n = true ↔ 4096 < Bk.sz ⟨1, cpu, 0, 0, evsI l⟩ n + (vbytes n).length) := fun n h1 h2 => by
  unfold Bk.big
  rw [decide_eq_true_eq]
  unfold mostB
  rw [qfa, qu9 h1 h2]
 obtain ⟨k, hk⟩ : ∃ k, k = qam (fun i => !(mostB cpu l m).big i) m := ⟨_, rfl⟩
 have hkm : k ≤ m := by rw [hk]; exact qb9 _ _
 have hf : (mostB cpu l m).qeb = k := by
  refine qra (by rw [hlen]; exact hkm) (fun h1 => ?_) (fun n h1 h2 => ?_)
  ·have := qg7 (fun i => !(mostB cpu l m).big i) m (by rw [← hk]; exact h1)
   rw [← hk] at this
   simpa using this
  ·have := qdr (fun i => !(mostB cpu l m).big i) m n (by rw [← hk]; exact h1) (by rw [hlen] at h2; exact h2)
   simpa using this
 have hpos : 0 < k := by
  rw [hk]
  refine qfw _ ?_ m h0
  have h1 := (hbig 1 (by omega) (by omega))
  have h2 := sz_le ⟨1, cpu, 0, 0, evsI l⟩ 1
  have h3 := qk 1
  cases hb1 : (mostB cpu l m).big 1 with
  | true => have := h1.1 hb1; omega
  | false => rfl
 refine ⟨?_, ?_, by rw [hf]; exact hkm, by rw [hf]; exact hpos, ?_⟩
 ·rw [qe9 (b := mostB cpu l m) rfl (by show cpu ≤ 63; have := h.c64; omega) (Int.le_refl _) (by show (0 : Int) ≤ _; omega) rfl (by rw [hlen]; omega), decide_eq_true_eq]
  ·exact qha hc
  ·intro i hi
   exact qe7 _ _ _ hc _ (qaz Ev.zero hi)
 ·refine ⟨by show 1 < 256; decide, by have := h.c64; show cpu < 256; omega, by show I64 0; exact ⟨by decide, by decide⟩, by show I64 0; exact ⟨by decide, by decide⟩, fun e he => ?_⟩
  have he : e ∈ evsI (l.take m) := he
  unfold evsI at he
  obtain ⟨y, hy, rfl⟩ := List.mem_map.1 he
  exact (h.ok y (List.mem_of_mem_take hy)).e
 ·intro n h1 h2 he
  rw [hf, hk] at h1
  have h3 := qdr (fun i => !(mostB cpu l m).big i) m n h1 h2
  have h4 : (mostB cpu l m).big n = true := by simpa using h3
  have hn : 0 < n := by omega
  have h5 := (hbig n hn h2).1 h4
  have h6 := (qrd h hn (by omega)).1 he
  have h7 := qu8 (cpu := cpu) (es := evsI l) (n := n) (qjm h n).1
  omega
theorem qre {cpu : Nat} {l : List It} {opn : Int} (h : GoodI cpu l opn) {limit : Nat} (hl : 0 < limit) (h0 : 0 < l.length) :
  cutN cpu l opn limit = qam (fun n => decide ((ofB cpu l opn n).err = 0)) (mostB cpu l (min l.length limit)).qeb := by
 have hm := qil h (m := min l.length limit) (by omega) (by omega)
 unfold cutN
 refine qg8 _ hm.2.2.1 (fun n h1 h2 => ?_)
 rw [decide_eq_false_iff_not]
 exact hm.2.2.2.2 n h1 h2
theorem qva {cpu : Nat} {l : List It} {opn : Int} (h : GoodI cpu l opn) (h0 : 0 < l.length) : (ofB cpu l opn 1).err = 0 := by
 rw [qrd h (by omega) (by omega)]
 have h2 := sz_le ⟨1, cpu, (ofB cpu l opn 1).lost, 0, evsI l⟩ 1
 have h3 := qk 1
 omega
theorem qjn {cpu : Nat} {l : List It} {opn : Int} (h : GoodI cpu l opn) {limit : Nat} (hl : 0 < limit) (h0 : 0 < l.length) : 0 < cutN cpu l opn limit ∧ cutN cpu l opn limit ≤ l.length ∧ (ofB cpu l opn (cutN cpu l opn limit)).err = 0 := by
 have h1 := qfw (fun n => decide ((ofB cpu l opn n).err = 0)) (by rw [decide_eq_true (qva h h0)]) (min l.length limit) (by omega)
 have h2 := qb9 (fun n => decide ((ofB cpu l opn n).err = 0)) (min l.length limit)
 have h3 := qg7 (fun n => decide ((ofB cpu l opn n).err = 0)) (min l.length limit) h1
 unfold cutN
 exact ⟨h1, by omega, of_decide_eq_true h3⟩
theorem qfy {cpu limit f : Nat} {opn : Int} {l : List It} (h : 0 < l.length) (hf : 0 < f) : cutGo cpu opn limit f l = ofB cpu l opn (cutN cpu l opn limit) :: cutGo cpu opn limit (f - 1) (l.drop (cutN cpu l opn limit)) := by
 cases f with
 | zero => omega
 | succ f => rw [cutGo, if_neg (by omega)]; rfl
theorem qhb {cpu limit f : Nat} {opn : Int} {l : List It} (h : l.length = 0) : cutGo cpu opn limit f l = [] := by
 cases f with
 | zero => rfl
 | succ f => rw [cutGo, if_pos h]
section
variable {cpu : Nat} {l : List It} {opn limit : Int}
theorem qd7 (h : 64 ≤ cpu ∨ limit < 1 ∨ 4096 < limit) : cutS cpu l opn limit = ([], 2) := by unfold cutS; rw [if_pos h]
theorem qim (h : ¬(64 ≤ cpu ∨ limit < 1 ∨ 4096 < limit)) (h2 : zr cpu l opn = false) : cutS cpu l opn limit = ([], 110) := by unfold cutS; rw [if_neg h, if_pos h2]
theorem qko (h : ¬(64 ≤ cpu ∨ limit < 1 ∨ 4096 < limit)) (h2 : zr cpu l opn = true) (h3 : l.length = 0) (h4 : opn = 0) : cutS cpu l opn limit = ([], 0) := by unfold cutS; rw [if_neg h, if_neg (by rw [h2]; decide), if_pos h3, if_pos h4]
theorem qkp (h : ¬(64 ≤ cpu ∨ limit < 1 ∨ 4096 < limit)) (h2 : zr cpu l opn = true) (h3 : l.length = 0) (h4 : opn ≠ 0) : cutS cpu l opn limit = ([⟨1, cpu, opn, 0, []⟩], 0) := by unfold cutS; rw [if_neg h, if_neg (by rw [h2]; decide), if_pos h3, if_neg h4]
theorem qkq {lim : Nat} (h : ¬(64 ≤ cpu ∨ (lim : Int) < 1 ∨ 4096 < (lim : Int))) (h2 : zr cpu l opn = true) (h3 : l.length ≠ 0) : cutS cpu l opn (lim : Int) = (cutGo cpu opn lim l.length l, 0) := by unfold cutS; rw [if_neg h, if_neg (by rw [h2]; decide), if_neg h3, Int.toNat_natCast]
end
theorem qtj {cpu : Nat} {l : List It} {opn : Int} (h : l.length = 0) : ofB cpu l opn 0 = ⟨1, cpu, opn, 0, []⟩ := by
 cases l with
 | nil => show (⟨1, cpu, 0 + (if 0 = 0 then opn else 0), 0, []⟩ : Bk) = _; rw [if_pos rfl, Int.zero_add]
 | cons x r => cases h
theorem qhc {p : Nat → Bool} {m : Nat} (h : p m = false) (h0 : 0 < m) : qam p m = qam p (m - 1) := by
 cases m with
 | zero => omega
 | succ m => rw [qam, if_neg (by rw [h]; decide)]; rfl
theorem qhd {p : Nat → Bool} {m : Nat} (h : p m = true) : qam p m = m := by
 cases m with
 | zero => rfl
 | succ m => rw [qam, if_pos h]
def qa8 (cpu : Nat) : Int → List It → Bool
 | _, [] => true
 | s, x :: t => decide (0 ≤ x.before ∧ x.before ≤ 281474976710656 - s ∧ x.e.cpu = cpu) && qa8 cpu (s + x.before) t
theorem qeo (cpu : Nat) : ∀ (l : List It) (s : Int), qa8 cpu s l = true ↔ (qat (281474976710656 - s) (befI l) = true ∧ ∀ x ∈ l, x.e.cpu = cpu)
 | [], s => by simp [qa8, befI, qat]
 | x :: t, s => by
  have ih := qeo cpu t (s + x.before)
  show (_ && qa8 cpu (s + x.before) t) = true ↔ (_ && qat (281474976710656 - s - x.before) (befI t)) = true ∧ _
  rw [Bool.and_eq_true, Bool.and_eq_true, ih, decide_eq_true_eq, decide_eq_true_eq, show (281474976710656 : Int) - (s + x.before) = 281474976710656 - s - x.before by omega]
  constructor
  ·rintro ⟨⟨h1, h2, h3⟩, h4, h5⟩
   exact ⟨⟨⟨h1, h2⟩, h4⟩, fun y hy => by rcases List.mem_cons.1 hy with rfl | hy; exact h3; exact h5 y hy⟩
  ·rintro ⟨⟨⟨h1, h2⟩, h4⟩, h5⟩
   exact ⟨⟨h1, h2, h5 x List.mem_cons_self⟩, h4, fun y hy => h5 y (List.mem_cons_of_mem _ hy)⟩
def qdd (cpu : Nat) (l : List It) (opn : Int) : Bool := decide (0 ≤ opn ∧ opn ≤ 281474976710656) && (qa8 cpu opn l && decide ((rowR (evsI l)).2 = 0))
theorem qkr {cpu : Nat} {l : List It} {opn : Int} (hc : cpu < 64) (hok : ∀ x ∈ l, x.Ok) : qdd cpu l opn = zr cpu l opn := by
 rw [Bool.eq_iff_iff]
 constructor
 ·intro h
  unfold qdd at h
  simp only [Bool.and_eq_true, decide_eq_true_eq, qeo] at h
  obtain ⟨h1, ⟨h2, h3⟩, h4⟩ := h
  unfold zr
  simp only [Bool.and_eq_true, decide_eq_true_eq, qat]
  refine ⟨h4, ⟨⟨h1.1, h1.2⟩, h2⟩, ?_⟩
  cases l with
  | nil => rfl
  | cons x r => exact decide_eq_true (h3 x List.mem_cons_self)
 ·intro h
  have hG := GoodI.of hc hok h
  unfold zr at h
  simp only [Bool.and_eq_true, decide_eq_true_eq, qat] at h
  obtain ⟨h4, ⟨h1, h2⟩, h3⟩ := h
  unfold qdd
  simp only [Bool.and_eq_true, decide_eq_true_eq, qeo]
  refine ⟨h1, ⟨h2, fun x hx => ?_⟩, h4⟩
  obtain ⟨b, hb⟩ := hG.chain
  exact qe7 _ _ _ hb _ (List.mem_map_of_mem hx)
theorem qoj {cpu : Nat} {l : List It} {k : Nat} {s : Int} (d : It) (h : k < l.length) : qa8 cpu s (l.drop k) = (decide (0 ≤ (l.getD k d).before ∧ (l.getD k d).before ≤ 281474976710656 - s ∧ (l.getD k d).e.cpu = cpu) && qa8 cpu (s + (l.getD k d).before) (l.drop (k + 1))) := by
 rw [List.drop_eq_getElem_cons h, List.getD_eq_getElem?_getD, List.getElem?_eq_getElem h]
 rfl
theorem qin {cpu : Nat} {l : List It} {opn : Int} (h : ¬(0 ≤ opn ∧ opn ≤ 281474976710656)) : qdd cpu l opn = false := by
 unfold qdd
 rw [decide_eq_false h, Bool.false_and]
theorem qhe {cpu : Nat} {l : List It} {opn : Int} (h : qa8 cpu opn l = false) : qdd cpu l opn = false := by
 unfold qdd
 rw [h, Bool.false_and, Bool.and_false]
theorem qrf {cpu : Nat} {l : List It} {opn : Int} (h1 : 0 ≤ opn ∧ opn ≤ 281474976710656) (h2 : qa8 cpu opn l = true) : qdd cpu l opn = decide ((rowR (evsI l)).2 = 0) := by
 unfold qdd
 rw [h2, decide_eq_true h1, Bool.true_and, Bool.true_and]
def It.zero : It := ⟨Ev.zero, 0⟩
theorem si_it : SI Tryd.prog 47 12 := ⟨by kernel_rfl, by kernel_rfl⟩
theorem ei_it : EI Tryd.prog 22 47 (.agg It.zero.cells) 12 88 := ⟨by kernel_rfl, by kernel_rfl, rfl, by omega⟩
theorem qnh : EI Tryd.prog 35 41 (.agg #[.int .u8 0, .int .u8 0, .int .i64 0, .int .i64 0, .slice none 0 0]) 5 48 := ⟨by kernel_rfl, by kernel_rfl, rfl, by omega⟩
theorem qrg : EI Tryd.prog 84 119 (.agg It.zero.cells) 12 88 := ⟨by kernel_rfl, by kernel_rfl, rfl, by omega⟩
theorem qni : EI Tryd.prog 81 114 (.agg #[.int .u8 0, .int .u8 0, .int .i64 0, .int .i64 0, .slice none 0 0]) 5 48 := ⟨by kernel_rfl, by kernel_rfl, rfl, by omega⟩
theorem qks (x : It) : ∀ v ∈ x.cells.toList, v.oneCell' = true := by intro v hv; simp [It.cells] at hv; rcases hv with rfl | rfl | rfl | rfl | rfl | rfl | rfl | rfl | rfl | rfl | rfl | rfl <;> rfl
section
variable {P : Program} {S : World → Prop} {σ : List (Nat × Value)} {o : Oper}
theorem Yl.qws {t e : TypeId} {z : Value} {size bytes : Nat} (ei : EI P t e z size bytes) {x lo hi mx : Operand} {A : Option Addr} {m c i j q : Nat} {k k' k2 : IntKind} (hop : o.op = .slice t x (some lo) (some hi) (some mx)) (hx : look σ x = some (.slice A m c)) (hl : look σ lo = some (.int k (i : Int))) (hh : look σ hi = some (.int k' (j : Int))) (hm : look σ mx = some (.int k2 (q : Int))) (hij : i ≤ j) (hj : j ≤ q) (hq : q ≤ c) :
  Yl P S σ o (.slice (if q = i then A else A.map (·.add (i * size))) (j - i) (q - i)) := fun a n D HF w hS => by
 obtain ⟨inf, hinf, _, hs, _⟩ := info_parts ei.hi
 have e1 : (Instr.sliceAt t (.slice A m c) (some (.int k (i : Int))) (some (.int k' (j : Int))) (some (.int k2 (q : Int)))).run P w = .ok (.slice (if q = i then A else A.map (·.add (i * size))) (j - i) (q - i)) w := by
  subst hs
  simp [Instr.sliceAt, run_underlying ei.ht, Instr.slice, Instr.sliceBounds, Instr.sliceBound, asIntOf, hij, hj, hq, sizeOf, typeInfo, hinf]
 unfold execOp
 simp only [hop, HF.eval hx, HF.eval hl, HF.eval hh, HF.eval hm, Option.map_some, Sem.run_bind, e1, Result.andThen_ok]
 rfl
end
theorem qkt {α : Type} (f : α → List Value) (sz : Nat) (hf : ∀ x, (f x).length = sz) : ∀ (l : List α) (k : Nat), (l.flatMap f).take (k * sz) = (l.take k).flatMap f
 | [], _ => by simp
 | _ :: _, 0 => by simp
 | x :: l, k + 1 => by
  rw [List.flatMap_cons, List.take_succ_cons, List.flatMap_cons, List.take_append, List.take_of_length_le (by rw [hf, Nat.succ_mul]; omega), hf, ← qkt f sz hf l k]
  congr 2
  rw [Nat.succ_mul]; omega
theorem qku {α : Type} (f : α → List Value) (sz : Nat) (hf : ∀ x, (f x).length = sz) : ∀ (l : List α) (k : Nat), (l.flatMap f).drop (k * sz) = (l.drop k).flatMap f
 | [], _ => by simp
 | _ :: _, 0 => by simp
 | x :: l, k + 1 => by
  rw [List.flatMap_cons, List.drop_succ_cons, List.drop_append, List.drop_of_length_le (by rw [hf, Nat.succ_mul]; omega), hf, ← qku f sz hf l k, List.nil_append]
  congr 1
  rw [Nat.succ_mul]; omega
theorem Rd.qsf {α : Type} {f : α → List Value} {sz : Nat} (hf : ∀ x, (f x).length = sz) {w : World} {B k : Nat} {A : Option Addr} {l : List α} (h : Rd w B sz A l.length (l.flatMap f)) (hk : k ≤ l.length) : Rd w B sz A k ((l.take k).flatMap f) := by
 have h1 := h.upto hk
 rwa [qkt f sz hf] at h1
theorem Rd.qwt {α : Type} {f : α → List Value} {sz : Nat} (hf : ∀ x, (f x).length = sz) {w : World} {B k c : Nat} {A : Option Addr} {l : List α} (h : Rd w B sz A l.length (l.flatMap f)) (hk : k ≤ l.length) (hc : l.length ≤ c) : Rd w B sz (if c = k then A else A.map (·.add (k * sz))) (l.drop k).length ((l.drop k).flatMap f) := by
 have h1 := h.from hk hc
 rwa [qku f sz hf, ← List.length_drop] at h1
theorem Rd.qwu {α : Type} {f : α → List Value} {size : Nat} (hf : ∀ x, (f x).length = size) {w : World} {B n g o : Nat} {l : List α} (h : Rd w B size (some ⟨g, o, none⟩) n (l.flatMap f)) {k j m : Nat} {x : α} {ys : List Value} (hk : l[k]? = some x) (hy : ((f x).drop j).take m = ys) : w.rangeAt g (o + k * size + j) ys := fun i u hu => by
 rw [← hy, List.getElem?_take] at hu
 split at hu
 ·rw [List.getElem?_drop] at hu
  have h1 := h.qad hf hk (j + i) u hu
  rwa [← Nat.add_assoc] at h1
 ·cases hu
theorem qd8 {α : Type} {l : List α} {k : Nat} (d : α) (h : k < l.length) : l.take (k + 1) = l.take k ++ [l.getD k d] := by
 rw [List.take_succ_eq_append_getElem h, List.getD_eq_getElem?_getD, List.getElem?_eq_getElem h]
 rfl
theorem qfz {l : List It} {k : Nat} (h : k < l.length) : (evsI (l.take (k + 1))).flatMap evL = (evsI (l.take k)).flatMap evL ++ evL (l.getD k It.zero).e := by
 rw [qd8 It.zero h]
 unfold evsI
 rw [List.map_append, List.flatMap_append]
 simp
theorem qok {l : List It} {k : Nat} (h : k < l.length) : (befI (l.take (k + 1))).map I64i = (befI (l.take k)).map I64i ++ [I64i (l.getD k It.zero).before] := by
 rw [qd8 It.zero h]
 unfold befI
 rw [List.map_append, List.map_append]
 rfl
theorem qnj (l : List It) : (befI l).length = l.length := by unfold befI; rw [List.length_map]
theorem qrh {l : List It} (h : ∀ x ∈ l, x.Ok) : ∀ e ∈ evsI l, e.Ok := fun e he => by
 unfold evsI at he
 obtain ⟨x, hx, rfl⟩ := List.mem_map.1 he
 exact (h x hx).e
theorem qtk (l : List Int) : ∀ v ∈ l.map I64i, v.oneCell' = true := by
 intro v hv
 obtain ⟨_, _, rfl⟩ := List.mem_map.1 hv
 rfl
theorem qeg {α : Type} {l : List α} {k : Nat} (d : α) (h : k < l.length) : l.drop k = l.getD k d :: l.drop (k + 1) := by
 rw [List.drop_eq_getElem_cons h, List.getD_eq_getElem?_getD, List.getElem?_eq_getElem h]
 rfl
theorem qri {xs : List Int} {k : Nat} {r : Int} (h : k < xs.length) : qat r (xs.drop k) = (decide (0 ≤ xs.getD k 0 ∧ xs.getD k 0 ≤ r) && qat (r - xs.getD k 0) (xs.drop (k + 1))) := by
 rw [qeg 0 h, qat]
theorem qol {cpu : Nat} {l : List It} (h : 0 < l.length) : cpuOk cpu l = decide ((l.getD 0 It.zero).e.cpu = cpu) := by
 cases l with
 | nil => cases h
 | cons x r => rfl
theorem qrj {cpu : Nat} {l : List It} (h : l.length = 0) : cpuOk cpu l = true := by
 cases l with
 | nil => rfl
 | cons x r => cases h
theorem qmc {cpu : Nat} {l : List It} {opn : Int} (h : (rowR (evsI l)).2 ≠ 0) : zr cpu l opn = false := by
 unfold zr
 rw [decide_eq_false h, Bool.false_and]
theorem qgb {cpu : Nat} {l : List It} {opn : Int} (h : qat qdq (opn :: befI l) = false) : zr cpu l opn = false := by
 unfold zr
 rw [h, Bool.false_and, Bool.and_false]
theorem qio {cpu : Nat} {l : List It} {opn : Int} (h1 : (rowR (evsI l)).2 = 0) (h2 : qat qdq (opn :: befI l) = true) : zr cpu l opn = cpuOk cpu l := by
 unfold zr
 rw [h2, decide_eq_true h1, Bool.true_and, Bool.true_and]
theorem qhf {l : List It} {k j : Nat} (hj : j < k) (hk : k ≤ l.length) : sumI (befI (l.take (j + 1))) = sumI (befI (l.take j)) + (befI (l.take k)).getD j 0 := by
 rw [qd8 It.zero (by omega : j < l.length)]
 unfold befI
 rw [List.map_append, qgi]
 have h1 : (List.map It.before (l.take k)).getD j 0 = (l.getD j It.zero).before := by
  rw [List.getD_eq_getElem?_getD, List.getElem?_map, List.getElem?_take, if_pos hj, List.getD_eq_getElem?_getD, List.getElem?_eq_getElem (by omega)]
  rfl
 rw [h1]
 simp [sumI]
theorem qrk {l : List It} {j : Nat} (hj : j < l.length) : sumI (befI (l.take (j + 1))) = sumI (befI (l.take j)) + (l.getD j It.zero).before := by
 rw [qd8 It.zero hj]
 unfold befI
 rw [List.map_append, qgi]
 simp [sumI]
theorem GoodI.part {cpu : Nat} {l : List It} {opn : Int} (h : GoodI cpu l opn) (j : Nat) : 0 ≤ sumI (befI (l.take j)) ∧ sumI (befI (l.take j)) + opn ≤ 281474976710656 := by
 have h1 := qfx l j
 have h2 := qca (l := l.take j) (fun x hx => h.bef x (List.mem_of_mem_take hx))
 have h3 := qca (l := l.drop j) (fun x hx => h.bef x (List.mem_of_mem_drop hx))
 have h4 := h.sum
 omega
theorem qfb {cpu : Nat} {l : List It} {opn : Int} {k : Nat} (hk : k ≤ l.length) {lo : Int} (hlo : lo = (ofB cpu l opn k).lost) (A : Option Addr) (c : Nat) : #[.int .u8 1, .int .u8 (cpu : Int), .int .i64 lo, .int .i64 0, .slice A k c] = (ofB cpu l opn k).cells A c := by
 subst hlo
 unfold Bk.cells
 rw [qbh hk]
 rfl
theorem qrl {cpu : Nat} {l : List It} {opn : Int} {k : Nat} (h : k = l.length) : (ofB cpu l opn k).lost = sumI (befI (l.take k)) + opn := by
 show _ + (if k = l.length then opn else 0) = _
 rw [if_pos h]
theorem qrm {cpu : Nat} {l : List It} {opn : Int} {k : Nat} (h : k ≠ l.length) : (ofB cpu l opn k).lost = sumI (befI (l.take k)) := by
 show _ + (if k = l.length then opn else 0) = _
 rw [if_neg h, Int.add_zero]
end Go.Proofs.YtfeheccoijnbaaaDoor
namespace Go.Proofs.YtfeheccoijnbaaaDoor
open Go.RowKit Go.ChangeShapes Go.WideShapes Go.ChangeAt
section
variable {H : Type} {enc : TypeId × Value → H} {P : Program} {W : World} {sp : Nat → Bool} {held : Bool}
theorem flat_get {sz : Nat} : ∀ (css : List (List Value)), (∀ l ∈ css, l.length = sz) → ∀ p u, (css.flatMap id)[p]? = some u → ∃ i j, ∃ hi : i < css.length, j < sz ∧ p = i * sz + j ∧ css[i][j]? = some u := by
 intro css
 induction css with
 | nil => intro _ p u h; simp at h
 | cons l r ih =>
  intro h p u hu
  have hll := h l (by simp)
  rw [List.flatMap_cons] at hu
  by_cases hp : p < sz
  ·rw [List.getElem?_append_left (by simp only [id]; omega)] at hu
   exact ⟨0, p, by simp, hp, by omega, hu⟩
  ·rw [List.getElem?_append_right (by simp only [id]; omega)] at hu
   simp only [id] at hu
   rw [hll] at hu
   obtain ⟨i, j, hi, hj, hpj, hu'⟩ := ih (fun y hy => h y (by simp [hy])) _ u hu
   exact ⟨i + 1, j, by simp; omega, hj, by rw [Nat.succ_mul]; omega, by simpa using hu'⟩
theorem qrn {sz : Nat} : ∀ (css : List (List Value)), (∀ l ∈ css, l.length = sz) → (css.flatMap id).length = css.length * sz := by
 intro css
 induction css with
 | nil => simp
 | cons l r ih => intro h; rw [List.flatMap_cons, List.length_append, ih (fun y hy => h y (by simp [hy])), List.length_cons, Nat.succ_mul]; have := h l (by simp); simp only [id]; omega
theorem qom {α : Type} (f : α → List Value) (Ok : α → Prop) {t e : TypeId} {sz : Nat} (ht : P.underlying t = some (.slice e)) (hsz : P.cellsOf e = sz) (h0 : 0 < sz) (hf : ∀ x, (f x).length = sz)
  (hE : ∀ m l y, DataW.trod enc P W 0 sp held m e l = some y → ∃ x, f x = l ∧ Ok x) {fuel : Nat} {cs : List Value} {x : DataW H × List MemPlace} (h : DataW.trod enc P W 0 sp held fuel t cs = some x) :
  ∃ (A : Option Addr) (c : Nat) (l : List α), cs = [.slice A l.length c] ∧ l.length ≤ c ∧ c ≤ maxLen ∧ (∀ x ∈ l, Ok x) ∧ Rd W W.heap.size sz A l.length (l.flatMap f) := by
 rcases DataW.trod_slice ht h with ⟨hc, _⟩ | ⟨a, len, cap, elems, rest, m, _, hc, _, _, hl, hm, hlen, hel, _⟩
 ·exact ⟨none, 0, [], hc, Nat.le_refl _, by unfold maxLen; omega, by simp, Rd.nil⟩
 ·have hall : ∀ i, i < len → ∃ x : α, W.cells? 0 (a.add (i * sz)) sz = some (f x) ∧ Ok x := by
   intro i hi
   have h1 := hel i hi
   rw [hsz, List.getElem?_eq_getElem (by omega : i < elems.length)] at h1
   obtain ⟨l, h2, h3⟩ := Option.bind_eq_some_iff.1 h1
   obtain ⟨x, rfl, hx⟩ := hE _ _ _ h3
   exact ⟨x, h2, hx⟩
  have key : ∀ k, k ≤ len → ∃ xs : List α, xs.length = k ∧ ∀ i (hi : i < xs.length), W.cells? 0 (a.add (i * sz)) sz = some (f xs[i]) ∧ Ok xs[i] := by
   intro k
   induction k with
   | zero => intro _; exact ⟨[], rfl, fun i hi => by simp at hi⟩
   | succ k ih =>
    intro hk
    obtain ⟨xs, h1, h2⟩ := ih (by omega)
    obtain ⟨x, h3, h4⟩ := hall k (by omega)
    refine ⟨xs ++ [x], by simp [h1], fun i hi => ?_⟩
    by_cases hik : i < xs.length
    ·rw [List.getElem_append_left hik]; exact h2 i hik
    ·obtain rfl : i = xs.length := by simp at hi; omega
     rw [List.getElem_append_right (Nat.le_refl _)]
     simp only [Nat.sub_self, List.getElem_cons_zero, h1]
     exact ⟨h3, h4⟩
  obtain ⟨xs, h1, h2⟩ := key len (Nat.le_refl _)
  have hfm : xs.flatMap f = (xs.map f).flatMap id := by rw [List.flatMap_map]; rfl
  have hll : ∀ l ∈ xs.map f, l.length = sz := fun l hl' => by obtain ⟨x, _, rfl⟩ := List.mem_map.1 hl'; exact hf x
  have hat : ∀ i (hi : i < xs.length) j, j < sz → W.cell? (a.add (i * sz + j)) = (f xs[i])[j]? := by
   intro i hi j hj
   have := (World.cells?_some (h2 i hi).1).2.2 j hj
   rwa [qjt] at this
  refine ⟨some a, cap, xs, by rw [hc, h1], by omega, hm, fun x hx => by obtain ⟨i, hi, rfl⟩ := List.getElem_of_mem hx; exact (h2 i hi).2, ⟨by rw [hfm, qrn _ hll, List.length_map], fun hn => ⟨a, rfl, ?_, ?_⟩⟩⟩
  ·have h3 := hat 0 hn 0 h0
   have h4 := hf xs[0]
   rw [List.getElem?_eq_getElem (by omega)] at h3
   have := World.block_lt_of_cell? W _ h3
   simpa [Addr.add] using this
  ·intro p u hu
   rw [hfm] at hu
   obtain ⟨i, j, hi, hj, rfl, hu'⟩ := flat_get _ hll p u hu
   rw [List.length_map] at hi
   rw [hat i hi j hj, ← hu', List.getElem_map]
end
section
variable {H : Type} {enc : TypeId × Value → H} {W : World} {b0 : Nat} {v : Value} {d : DataW H} {p : List MemPlace}
theorem it_f0 : fieldAt Tryd.prog 47 0 0 45 = true := by kernel_rfl
theorem it_f1 : fieldAt Tryd.prog 47 1 11 3 = true := by kernel_rfl
theorem qnk : Tryd.prog.cellsOf 47 = 12 := by kernel_rfl
theorem qtl : Tryd.prog.cellsOf 45 = 11 := by kernel_rfl
theorem qkv : Tryd.prog.underlying 22 = some (.slice 47) := by kernel_rfl
theorem qon {fuel : Nat} {cs : List Value} {x : DataW H × List MemPlace} (hf : DataW.trod enc Tryd.prog W 0 (fun _ => true) true fuel 45 cs = some x) : ∃ e : Ev, evL e = cs ∧ e.Ok := by
 obtain ⟨h1, h2⟩ := qlv qp7 hf
 exact qp6 h1 h2
theorem qro {fuel : Nat} {cs : List Value} {x : DataW H × List MemPlace} (hf : DataW.trod enc Tryd.prog W 0 (fun _ => true) true fuel 47 cs = some x) : ∃ e : It, itL e = cs ∧ e.Ok := by
 obtain ⟨hl, _, y0, g0⟩ := qf3 it_f0 hf
 obtain ⟨_, _, y1, g1⟩ := qf3 it_f1 hf
 obtain ⟨e, he, hok⟩ := qon g0
 obtain ⟨n, e1, _, w1⟩ := DataW.trod_int qp4 g1
 rw [qnk] at hl
 rw [qp8] at e1
 rw [qtl] at he
 have a1 := qlx e1
 refine ⟨⟨e, n⟩, ?_, ⟨hok, qed w1⟩⟩
 have h3 : cs = (cs.drop 0).take 11 ++ [Value.int .i64 n] := by
  refine List.ext_getElem? fun i => ?_
  by_cases hi : i < 11
  ·rw [List.getElem?_append_left (by simp; omega), List.drop_zero, List.getElem?_take, if_pos hi]
  ·by_cases h11 : i = 11
   ·subst h11
    rw [List.getElem?_append_right (by simp; omega), a1]
    simp [hl]
   ·rw [List.getElem?_eq_none (by omega), List.getElem?_eq_none (by simp; omega)]
 rw [h3, ← he]
 rfl
theorem qoo {fuel : Nat} {cs : List Value} {x : DataW H × List MemPlace} (hf : DataW.trod enc Tryd.prog W 0 (fun _ => true) true fuel 22 cs = some x) :
  ∃ (A : Option Addr) (c : Nat) (l : List It), cs = [.slice A l.length c] ∧ l.length ≤ c ∧ c ≤ maxLen ∧ (∀ x ∈ l, x.Ok) ∧ Rd W W.heap.size 12 A l.length (l.flatMap itL) :=
 qom itL It.Ok qkv qnk (by decide) qab (fun _ _ _ h => qro h) hf
set_option maxRecDepth 100000 in
theorem qrp (hval : Value.okWide Tryd.prog W .any b0 22 v) (h : DataW.Trod enc Tryd.prog W 0 (fun _ => true) true 22 v d p) :
  ∃ (A : Option Addr) (c : Nat) (l : List It), v = .slice A l.length c ∧ l.length ≤ c ∧ c ≤ maxLen ∧ (∀ x ∈ l, x.Ok) ∧ Rd W W.heap.size 12 A l.length (l.flatMap itL) := by
 obtain ⟨a0, len, cap, rfl⟩ := okWide_slice qkv hval
 obtain ⟨fuel, hf⟩ := h
 obtain ⟨A, c, l, hcs, h1⟩ := qoo hf
 simp only [Value.cells, List.cons.injEq, and_true, Value.slice.injEq] at hcs
 obtain ⟨rfl, rfl, rfl⟩ := hcs
 exact ⟨_, _, l, rfl, h1⟩
end
end Go.Proofs.YtfeheccoijnbaaaDoor
namespace Go.Proofs.YtfeheccoijnbaaaDoor
open Go.RowKit
def ze : Nat → List Nat → List Bk × Nat × Nat
 | 0, _ => ([], 0, 0)
 | f + 1, l => if l.length = 0 then ([], 0, 0) else
  if (readB l).2.2 ≠ 0 then ([], 0, (readB l).2.2) else
   ((readB l).1 :: (ze f (l.drop (readB l).2.1)).1, (readB l).2.1 + (ze f (l.drop (readB l).2.1)).2.1, (ze f (l.drop (readB l).2.1)).2.2)
def qgd (l : List Nat) : List Bk × Nat × Nat := if 524288 < l.length then ([], 0, 3) else ze l.length l
theorem qmk {f : Nat} {l : List Nat} (h : l.length = 0) : ze f l = ([], 0, 0) := by
 cases f with
 | zero => rfl
 | succ f => rw [ze, if_pos h]
theorem qml {f : Nat} {l : List Nat} {b : Bk} {m er : Nat} (hf : 0 < f) (h : 0 < l.length) (hq : readB l = (b, m, er)) (he : er ≠ 0) : ze f l = ([], 0, er) := by
 cases f with
 | zero => omega
 | succ f => rw [ze, if_neg (by omega), if_pos (by rw [hq]; exact he), hq]
theorem qlc {f : Nat} {l : List Nat} {b : Bk} {m : Nat} (hf : 0 < f) (h : 0 < l.length) (hq : readB l = (b, m, 0)) : ze f l = (b :: (ze (f - 1) (l.drop m)).1, m + (ze (f - 1) (l.drop m)).2.1, (ze (f - 1) (l.drop m)).2.2) := by
 cases f with
 | zero => omega
 | succ f => rw [ze, if_neg (by omega), if_neg (by rw [hq]; exact fun h => h rfl), hq]; rfl
def qiu (W : World) (lp : Nat) (Inv : List Nat → List Fact → Prop) (Stop : List Fact → Prop) : Prop :=
 ∀ (rest : List Nat) (F fr : List Fact) (w : World) (A : Option Addr) (c : Nat) (b : Bk) (m er : Nat), Inv rest F → readB rest = (b, m, er) → 0 < rest.length → (∀ x ∈ rest, x < 256) → b.evs.length ≤ c → Mem W w (.row (.slice A b.evs.length c) b.evs.length (b.evs.flatMap evL) 45 11 :: (F ++ fr)) →
  YieldAt Fence.wide 0 Tryd.prog lp #[.agg #[.int .u8 (b.kind : Int), .int .u8 (b.cpu : Int), .int .i64 b.lost, .int .i64 b.next, .slice A b.evs.length c, .int .i64 (m : Int)], .int .i64 (er : Int)] w fun e w' => ∃ F', Mem W w' (F' ++ fr) ∧ ((er = 0 ∧ e = .returned (.bool true) ∧ Inv (rest.drop m) F') ∨ (er ≠ 0 ∧ e = .returned (.bool false) ∧ Stop F'))
def qry (W : World) (Inv : List Nat → List Fact → Prop) (Stop : List Fact → Prop) (r : Ending) (w' : World) : Prop := ∃ v, r = .returned v ∧ ∃ F', Mem W w' F' ∧ (Inv [] F' ∨ Stop F')
theorem qhy {W : World} {fr : List Fact} {er : Nat} {I S : List Fact → Prop} : ∀ (e : Ending) (w' : World), (∃ F', Mem W w' (F' ++ fr) ∧ ((er = 0 ∧ e = .returned (.bool true) ∧ I F') ∨ (er ≠ 0 ∧ e = .returned (.bool false) ∧ S F'))) → ∃ v, e = .returned v
 | _, _, ⟨_, _, .inl ⟨_, h, _⟩⟩ => ⟨_, h⟩
 | _, _, ⟨_, _, .inr ⟨_, h, _⟩⟩ => ⟨_, h⟩
theorem Rd.qw0 {w : World} {B k c : Nat} {A : Option Addr} {l : List Nat} (h : Rd w B 1 A l.length (l.map B8)) (hk : k ≤ l.length) (hc : l.length ≤ c) : Rd w B 1 (if c = k then A else A.map (·.add (k * 1))) (l.drop k).length ((l.drop k).map B8) := by
 rw [List.length_drop]
 exact h.qnt hk hc
theorem qd9 (A : Option Addr) (n c : Nat) (l : List It) (w : World) (hr : Rd w w.heap.size 12 A n (l.flatMap itL)) (hln : l.length = n) (hn : n ≤ 1000000) :
    Calls Tryd.prog 36 #[.slice A n c] w fun r w' => (∃ A c, r = .returned (.slice A n c) ∧ w'.ownsRow w.heap.size 45 11 (.slice A n c) n ((evsI l).flatMap evL) ∧ n ≤ c) ∧ Below w.heap.size w w' := by
 refine qg (vs := [.slice A n c]) Tryd.func36 rfl rfl (by kernel_rfl) (σ0 := [(0, .slice A n c)]) rfl ?_
 intro a HF
 have HM := Mem.start w
 refine wp_seq (qa ?_)
 refine fp HF 1 0 [(2, .slice none 0 0)] fun a HF => ?_
 refine qb rfl (wp_seq (qa ?_))
 refine fp HF 1 0 [(3, .slice none 0 0)] fun a HF => ?_
 refine qb rfl ?_
 replace HM := HM.nil 45 11
 refine wp_seq (wp_seq (qa ?_))
 refine fp HF 1 0 [(6, .slice A n c)] fun a HF => ?_
 refine fy HF HM 1 rfl rfl rfl (Yl.len rfl rfl (by kernel_rfl)) fun a HF => ?_
 refine fp HF 1 2 [(8, vI 0)] fun a HF => ?_
 refine qb rfl (wp_block ?_)
 refine qs (fun mS aS wS => ∃ (k : Nat) (Ak : Option Addr) (ck : Nat), (k ≤ n) ∧ (k ≤ ck) ∧ mS = n - k ∧ Fr aS 19 [] [(8, vI k), (7, vI n), (6, .slice A n c), (3, .slice Ak k ck), (2, .slice none 0 0)] ∧ Mem w wS [.row (.slice Ak k ck) k ((evsI (l.take k)).flatMap evL) 45 11]) (m := n - 0) ⟨0, none, 0, Nat.zero_le _, Nat.le_refl _, rfl, HF.sub (by kernel_rfl), HM.picks [0] (by decide) rfl⟩ ?_
 clear HF HM; rintro mS a w_ ⟨k, Ak, ck, hk, hck, rfl, HF, HM⟩
 refine wp_seq (qa ?_)
 refine fp HF 1 0 [(9, .bool (decide ((k : Int) < (n : Int))))] fun a HF => ?_
 refine qb rfl (wp_seq ?_)
 rcases HF.tf 9 rfl with ⟨hb9, HF⟩ | ⟨hb9, HF⟩
 ·
  have hd9 := of_decide_eq_true hb9
  have hk9 : k < n := by omega
  refine qe HF rfl (wp_skip (wp_seq (wp_block (wp_seq (qa ?_)))))
  obtain ⟨gA, oA, rfl, _⟩ := hr.zm (Nat.lt_of_le_of_lt (Nat.zero_le _) (show k < n from by omega)) (by decide)
  refine fy HF HM 0 rfl rfl rfl (v := vP gA (oA + k * 12)) (Yl.ix gA oA k 12 rfl rfl rfl) fun a HF => ?_
  refine fy HF HM 1 rfl rfl rfl (v := .agg ((l.getD k It.zero).cells)) (Yl.zl rfl rfl si_it rfl (fun _ h => (h.old hr).qad qab ((getD_at It.zero (k := k) (by first | omega | (simp; omega)))))) fun a HF => ?_
  refine fo HF 2 rfl rfl ?_
  refine qq HF HM (cs := #[vI 0, vI 0, vB 0, vB 0, vI 0, vI 0, vI 0, vI 0, vI 0, vQ 0, vI 0, vI 0]) rfl (by kernel_rfl) rfl (by decide) ?_
  clear HF HM; intro a w5 g5 HF HM
  refine fo HF 3 rfl rfl ?_
  refine e_sa HF HM 0 rfl rfl rfl rfl rfl si_it rfl rfl (qks (l.getD k It.zero)) ?_
  clear HM; intro w4_3 HM
  refine qb rfl (qa ?_)
  refine fp HF 2 0 [(13, vP g5 0), (12, .slice Ak k ck)] fun a HF => ?_
  refine fy HF HM 2 rfl rfl rfl (v := .agg #[vI ((l.getD k It.zero).e.seq), vI ((l.getD k It.zero).e.time), vB ((l.getD k It.zero).e.cpu), vB ((l.getD k It.zero).e.kind), vI ((l.getD k It.zero).e.task), vI ((l.getD k It.zero).e.group), vI ((l.getD k It.zero).e.to), vI ((l.getD k It.zero).e.weight), vI ((l.getD k It.zero).e.ticks), vQ ((l.getD k It.zero).e.mask), vI ((l.getD k It.zero).e.got)]) (Yl.zl rfl rfl ⟨(by kernel_rfl), (by kernel_rfl)⟩ rfl (fun _ h => h.sub (i := 0) rfl 0 rfl)) fun a HF => ?_
  refine fo HF 3 rfl rfl ?_
  refine zp HF HM (vs := [(0, .agg #[vI ((l.getD k It.zero).e.seq), vI ((l.getD k It.zero).e.time), vB ((l.getD k It.zero).e.cpu), vB ((l.getD k It.zero).e.kind), vI ((l.getD k It.zero).e.task), vI ((l.getD k It.zero).e.group), vI ((l.getD k It.zero).e.to), vI ((l.getD k It.zero).e.weight), vI ((l.getD k It.zero).e.ticks), vQ ((l.getD k It.zero).e.mask), vI ((l.getD k It.zero).e.got)])]) (cs := #[vI ((l.getD k It.zero).e.seq), vI ((l.getD k It.zero).e.time), vB ((l.getD k It.zero).e.cpu), vB ((l.getD k It.zero).e.kind), vI ((l.getD k It.zero).e.task), vI ((l.getD k It.zero).e.group), vI ((l.getD k It.zero).e.to), vI ((l.getD k It.zero).e.weight), vI ((l.getD k It.zero).e.ticks), vQ ((l.getD k It.zero).e.mask), vI ((l.getD k It.zero).e.got)]) rfl ei_ev (by decide) rfl (by kernel_rfl) rfl (by decide) ?_
  clear HF HM; intro a w15 g15 HF HM
  refine fo HF 4 rfl rfl ?_
  refine qz HF HM (i := 2) rfl ei_ev rfl rfl rfl (news := (evL (l.getD k It.zero).e)) (HM.rdBlk (i := 0) (n := 1) (size := 11) rfl rfl) (qaf _) (by omega) (by omega) rfl (by decide) ?_
  clear HF HM; intro a w16 A16 c16 HF HM hc16
  rw [show ((evsI (l.take k)).flatMap evL) ++ (evL (l.getD k It.zero).e) = ((evsI (l.take (k + 1))).flatMap evL) from by rw [qfz (by omega)]] at HM
  refine fp HF 1 5 [(3, .slice A16 (k + 1) c16)] fun a HF => ?_
  refine qb rfl (qa ?_)
  refine fp HF 1 0 [(17, vI (IntKind.i64.wrap ((k : Int) + 1)))] fun a HF => ?_
  replace HF := HF.sp 17 (vI (k + 1 : Nat)) rfl (qo (by omega) (by omega))
  refine fp HF 1 1 [(8, vI (k + 1 : Nat))] fun a HF => ?_
  refine qb rfl ?_
  exact ⟨_, (by omega), k + 1, A16, c16, by omega, hc16, rfl, HF.sub (by kernel_rfl), HM.picks [2] (by decide) rfl⟩
 have hd9 := of_decide_eq_false hb9
 have hkn : k = n := by omega
 refine qd HF rfl (wp_exit (wp_seq (qa ?_)))
 refine fp HF 2 0 [(2, .slice Ak k ck)] fun a HF => ?_
 refine qb rfl (wp_ret ?_)
 exact ret1 rfl HF (.tmp HF rfl) (⟨⟨Ak, ck, by rw [hkn], by have h := HM.own (i := 0) rfl; rw [hkn, List.take_of_length_le (by omega)] at h; exact h, by omega⟩, HM.below⟩)
theorem qiv (A : Option Addr) (n c : Nat) (l : List It) (w : World) (hr : Rd w w.heap.size 12 A n (l.flatMap itL)) (hln : l.length = n) (hn : n ≤ 1000000) :
    Calls Tryd.prog 37 #[.slice A n c] w fun r w' => (∃ A c, r = .returned (.slice A n c) ∧ w'.ownsRow w.heap.size 3 1 (.slice A n c) n ((befI l).map I64i) ∧ n ≤ c) ∧ Below w.heap.size w w' := by
 refine qg (vs := [.slice A n c]) Tryd.func37 rfl rfl (by kernel_rfl) (σ0 := [(0, .slice A n c)]) rfl ?_
 intro a HF
 have HM := Mem.start w
 refine wp_seq (qa ?_)
 refine fp HF 1 0 [(2, .slice none 0 0)] fun a HF => ?_
 refine qb rfl (wp_seq (qa ?_))
 refine fp HF 1 0 [(3, .slice none 0 0)] fun a HF => ?_
 refine qb rfl ?_
 replace HM := HM.nil 3 1
 refine wp_seq (wp_seq (qa ?_))
 refine fp HF 1 0 [(6, .slice A n c)] fun a HF => ?_
 refine fy HF HM 1 rfl rfl rfl (Yl.len rfl rfl (by kernel_rfl)) fun a HF => ?_
 refine fp HF 1 2 [(8, vI 0)] fun a HF => ?_
 refine qb rfl (wp_block ?_)
 refine qs (fun mS aS wS => ∃ (k : Nat) (Ak : Option Addr) (ck : Nat), (k ≤ n) ∧ (k ≤ ck) ∧ mS = n - k ∧ Fr aS 19 [] [(8, vI k), (7, vI n), (6, .slice A n c), (3, .slice Ak k ck), (2, .slice none 0 0)] ∧ Mem w wS [.row (.slice Ak k ck) k ((befI (l.take k)).map I64i) 3 1]) (m := n - 0) ⟨0, none, 0, Nat.zero_le _, Nat.le_refl _, rfl, HF.sub (by kernel_rfl), HM.picks [0] (by decide) rfl⟩ ?_
 clear HF HM; rintro mS a w_ ⟨k, Ak, ck, hk, hck, rfl, HF, HM⟩
 refine wp_seq (qa ?_)
 refine fp HF 1 0 [(9, .bool (decide ((k : Int) < (n : Int))))] fun a HF => ?_
 refine qb rfl (wp_seq ?_)
 rcases HF.tf 9 rfl with ⟨hb9, HF⟩ | ⟨hb9, HF⟩
 ·
  have hd9 := of_decide_eq_true hb9
  have hk9 : k < n := by omega
  refine qe HF rfl (wp_skip (wp_seq (wp_block (wp_seq (qa ?_)))))
  obtain ⟨gA, oA, rfl, _⟩ := hr.zm (Nat.lt_of_le_of_lt (Nat.zero_le _) (show k < n from by omega)) (by decide)
  refine fy HF HM 0 rfl rfl rfl (v := vP gA (oA + k * 12)) (Yl.ix gA oA k 12 rfl rfl rfl) fun a HF => ?_
  refine fy HF HM 1 rfl rfl rfl (v := .agg ((l.getD k It.zero).cells)) (Yl.zl rfl rfl si_it rfl (fun _ h => (h.old hr).qad qab ((getD_at It.zero (k := k) (by first | omega | (simp; omega)))))) fun a HF => ?_
  refine fo HF 2 rfl rfl ?_
  refine qq HF HM (cs := #[vI 0, vI 0, vB 0, vB 0, vI 0, vI 0, vI 0, vI 0, vI 0, vQ 0, vI 0, vI 0]) rfl (by kernel_rfl) rfl (by decide) ?_
  clear HF HM; intro a w5 g5 HF HM
  refine fo HF 3 rfl rfl ?_
  refine e_sa HF HM 0 rfl rfl rfl rfl rfl si_it rfl rfl (qks (l.getD k It.zero)) ?_
  clear HM; intro w4_3 HM
  refine qb rfl (qa ?_)
  refine fp HF 2 0 [(13, vP g5 11), (12, .slice Ak k ck)] fun a HF => ?_
  refine fy HF HM 2 rfl rfl rfl (v := vI ((l.getD k It.zero).before)) (Yl.qh rfl rfl (by kernel_rfl) (fun _ h => h.cell (i := 0) rfl (rfl))) fun a HF => ?_
  refine fo HF 3 rfl rfl ?_
  refine zp HF HM (vs := [(0, vI ((l.getD k It.zero).before))]) (cs := #[vI ((l.getD k It.zero).before)]) rfl qmu (by decide) rfl (by kernel_rfl) rfl (by decide) ?_
  clear HF HM; intro a w15 g15 HF HM
  refine fo HF 4 rfl rfl ?_
  refine qz HF HM (i := 2) rfl qmu rfl rfl rfl (news := [I64i (l.getD k It.zero).before]) (HM.rdBlk (i := 0) (n := 1) (size := 1) rfl rfl) (by intro v hv; simp at hv; subst hv; rfl) (by omega) (by omega) rfl (by decide) ?_
  clear HF HM; intro a w16 A16 c16 HF HM hc16
  rw [show ((befI (l.take k)).map I64i) ++ [I64i (l.getD k It.zero).before] = ((befI (l.take (k + 1))).map I64i) from by rw [qok (by omega)]] at HM
  refine fp HF 1 5 [(3, .slice A16 (k + 1) c16)] fun a HF => ?_
  refine qb rfl (qa ?_)
  refine fp HF 1 0 [(17, vI (IntKind.i64.wrap ((k : Int) + 1)))] fun a HF => ?_
  replace HF := HF.sp 17 (vI (k + 1 : Nat)) rfl (qo (by omega) (by omega))
  refine fp HF 1 1 [(8, vI (k + 1 : Nat))] fun a HF => ?_
  refine qb rfl ?_
  exact ⟨_, (by omega), k + 1, A16, c16, by omega, hc16, rfl, HF.sub (by kernel_rfl), HM.picks [2] (by decide) rfl⟩
 have hd9 := of_decide_eq_false hb9
 have hkn : k = n := by omega
 refine qd HF rfl (wp_exit (wp_seq (qa ?_)))
 refine fp HF 2 0 [(2, .slice Ak k ck)] fun a HF => ?_
 refine qb rfl (wp_ret ?_)
 exact ret1 rfl HF (.tmp HF rfl) (⟨⟨Ak, ck, by rw [hkn], by have h := HM.own (i := 0) rfl; rw [hkn, List.take_of_length_le (by omega)] at h; exact h, by omega⟩, HM.below⟩)
theorem qmm (cpu : Nat) (A : Option Addr) (n c : Nat) (l : List It) (opn : Int) (hok : ∀ x ∈ l, x.Ok) (ho : I64 opn) (B : Nat) (w : World) (hL : LaidX B w) (hB : B ≤ w.heap.size) (hr : Rd w w.heap.size 12 A n (l.flatMap itL)) (hln : l.length = n) (hn : n ≤ 1000000) :
    Calls Tryd.prog 34 #[.int .u8 (cpu : Int), .slice A n c, .int .i64 opn] w (Is w (.bool (zr cpu l opn))) := by
 refine qg (vs := [vB cpu, .slice A n c, vI opn]) Tryd.func34 rfl rfl (by kernel_rfl) (σ0 := [(0, vB cpu), (1, .slice A n c), (2, vI opn)]) rfl ?_
 intro a HF
 have HM := Mem.start w
 refine wp_seq (qa ?_)
 refine fp HF 1 0 [(6, .bool false)] fun a HF => ?_
 refine qb rfl (wp_seq (wp_seq (qa ?_)))
 refine fp HF 1 0 [(13, .slice A n c)] fun a HF => ?_
 refine fo HF 1 rfl rfl ?_
 refine e_cl HF [.slice A n c] rfl rfl (qd9 A n c l _ (HM.old hr) (hln) (by omega)) ?_
 rintro _ w14 ⟨⟨A14, c14, rfl, ho, hc14⟩, hbw⟩
 refine ⟨_, rfl, ?_⟩
 replace HM := HM.callRow hbw ho
 clear HF; intro a HF
 refine fo HF 2 rfl rfl ?_
 refine e_cl HF [.slice A14 n c14] rfl rfl (qt6 A14 n c14 (evsI l) (qrh hok) B _ (hL.mem HM hB).laid (HM.le hB) (HM.rd (i := 0) rfl) (by omega) (i := (rowR (evsI l)).1) (er := (rowR (evsI l)).2) rfl) ?_
 rintro _ w15 ⟨rfl, hbw⟩
 refine ⟨_, rfl, ?_⟩
 replace HM := HM.call hbw
 clear HF; intro a HF
 refine fp HF 5 3 [(8, vI ((rowR (evsI l)).2))] fun a HF => ?_
 refine qb rfl (wp_seq (qa ?_))
 refine fp HF 2 0 [(19, .bool (((rowR (evsI l)).2 : Int) != (0 : Int)))] fun a HF => ?_
 refine qb rfl ?_
 rcases HF.tf 19 rfl with ⟨hb19, HF⟩ | ⟨hb19, HF⟩
 ·
  have hd19 := bne_iff_ne.1 hb19
  refine qe HF rfl (wp_seq (qa ?_))
  refine fp HF 1 0 [(6, .bool false)] fun a HF => ?_
  refine qb rfl (wp_ret ?_)
  replace HM := HM.picks (fs' := []) [] (by decide) rfl
  exact ret1 rfl HF (.tmp HF rfl) (⟨by rw [qmc (by omega)], HM.below⟩)
 have hd19 := bne_eq_false_iff_eq.1 hb19
 refine qd HF rfl (wp_skip (wp_seq (qa ?_)))
 refine fp HF 1 0 [(9, vI 281474976710656)] fun a HF => ?_
 refine qb rfl (wp_seq (wp_seq (qa ?_)))
 refine fp HF 1 0 [(20, vI opn)] fun a HF => ?_
 refine fo HF 1 rfl rfl ?_
 refine zp HF HM (vs := [(0, vI opn)]) (cs := #[vI opn]) rfl qmu (by decide) rfl (by kernel_rfl) rfl (by decide) ?_
 clear HF HM; intro a w21 g21 HF HM
 refine fp HF 1 2 [(22, .slice A n c)] fun a HF => ?_
 refine fo HF 3 rfl rfl ?_
 refine e_cl HF [.slice A n c] rfl rfl (qiv A n c l _ (HM.old hr) (hln) (by omega)) ?_
 rintro _ w23 ⟨⟨A23, c23, rfl, ho, hc23⟩, hbw⟩
 refine ⟨_, rfl, ?_⟩
 replace HM := HM.callRow hbw ho
 clear HF; intro a HF
 refine fo HF 4 rfl rfl ?_
 replace HM := HM.blkRow (i := 1) (n := 1) (size := 1) rfl rfl (by decide)
 refine qz HF HM (i := 1) rfl qmu rfl rfl rfl (news := ((befI l).map I64i)) (HM.rd (i := 0) rfl) (qtk _) (by omega) (by omega) rfl (by decide) ?_
 clear HF HM; intro a w24 A24 c24 HF HM hc24
 rw [show ((#[vI opn]).toList) ++ ((befI l).map I64i) = (opn :: befI l).map I64i from rfl] at HM
 refine fy HF HM 5 rfl rfl rfl (Yl.len rfl rfl (by kernel_rfl)) fun a HF => ?_
 refine fp HF 1 6 [(26, vI 0)] fun a HF => ?_
 refine qb rfl ?_
 have hxl : (opn :: befI l).length = 1 + n := by rw [List.length_cons, qnj]; omega
 refine wp_block ?_
 replace HM := HM.picks (fs' := [.row (.slice A24 (1 + n) c24) (1 + n) ((opn :: befI l).map I64i) 3 1]) [1] (by decide) rfl
 refine qs (fun mS aS wS => ∃ (k : Nat) (r : Int), (k ≤ 1 + n) ∧ (0 ≤ r) ∧ (r ≤ 281474976710656) ∧ (qat qdq (opn :: befI l) = qat r ((opn :: befI l).drop k)) ∧ mS = 1 + n - k ∧ Fr aS 53 [] [(26, vI k), (25, vI (1 + n : Nat)), (24, .slice A24 (1 + n) c24), (9, vI r), (19, .bool false), (6, .bool false), (0, vB cpu), (1, .slice A n c)] ∧ Mem w wS [.row (.slice A24 (1 + n) c24) (1 + n) ((opn :: befI l).map I64i) 3 1]) (m := 1 + n - 0) ⟨0, 281474976710656, Nat.zero_le _, by omega, Int.le_refl _, rfl, rfl, HF.sub (by kernel_rfl), HM.picks [0] (by decide) rfl⟩ ?_
 clear HF HM; rintro mS a w_ ⟨k, r, hk, hr0, hr1, hroom, rfl, HF, HM⟩
 refine wp_seq (qa ?_)
 refine fp HF 1 0 [(27, .bool (decide ((k : Int) < ((1 + n : Nat) : Int))))] fun a HF => ?_
 refine qb rfl (wp_seq ?_)
 rcases HF.tf 27 rfl with ⟨hb27, HF⟩ | ⟨hb27, HF⟩
 ·
  have hd27 := of_decide_eq_true hb27
  have hk27 : k < 1 + n := by omega
  have hat := qri (xs := opn :: befI l) (k := k) (r := r) (by omega)
  refine qe HF rfl (wp_skip (wp_seq (wp_block (wp_seq (qa ?_)))))
  obtain ⟨gA24, rfl⟩ := qbl (HM.own (i := 0) rfl) (Nat.lt_of_le_of_lt (Nat.zero_le _) (show k < 1 + n from by omega))
  refine fy HF HM 0 rfl rfl rfl (v := vP gA24 (k * 1)) (Yl.ix0 gA24 k 1 rfl rfl rfl) fun a HF => ?_
  refine fy HF HM 1 rfl rfl rfl (v := vI ((opn :: befI l).getD k 0)) (Yl.qh rfl rfl (by kernel_rfl) (fun _ h => h.qsc (i := 0) rfl (k := k) (qaw (F := I64i) (k := k) (x := ((opn :: befI l).getD k 0)) ((getD_at 0 (k := k) (by first | omega | (simp; omega))))))) fun a HF => ?_
  refine fp HF 1 2 [(11, vI ((opn :: befI l).getD k 0))] fun a HF => ?_
  refine qb rfl (wp_seq (wp_seq (qa ?_)))
  refine fp HF 3 0 [(32, .bool (decide ((((opn :: befI l).getD k 0) : Int) < (0 : Int))))] fun a HF => ?_
  rcases HF.tf 32 rfl with ⟨hb32, HF⟩ | ⟨hb32, HF⟩
  ·
   have hd32 := of_decide_eq_true hb32
   refine fp HF 4 3 [(36, .bool true)] fun a HF => ?_
   refine qb rfl (qe HF rfl (wp_seq (qa ?_)))
   refine fp HF 1 0 [(6, .bool false)] fun a HF => ?_
   refine qb rfl (wp_ret ?_)
   exact ret1 rfl HF (.tmp HF rfl) (⟨by rw [qgb (by rw [hroom, hat, decide_eq_false (by omega), Bool.false_and])], HM.below⟩)
  have hd32 := of_decide_eq_false hb32
  refine fp HF 4 3 [(36, .bool (decide ((((opn :: befI l).getD k 0) : Int) > (r : Int))))] fun a HF => ?_
  refine qb rfl ?_
  rcases HF.tf 36 rfl with ⟨hb36, HF⟩ | ⟨hb36, HF⟩
  ·
   have hd36 := of_decide_eq_true hb36
   refine qe HF rfl (wp_seq (qa ?_))
   refine fp HF 1 0 [(6, .bool false)] fun a HF => ?_
   refine qb rfl (wp_ret ?_)
   exact ret1 rfl HF (.tmp HF rfl) (⟨by rw [qgb (by rw [hroom, hat, decide_eq_false (by omega), Bool.false_and])], HM.below⟩)
  have hd36 := of_decide_eq_false hb36
  have hat2 : qat qdq (opn :: befI l) = qat (r - ((opn :: befI l).getD k 0)) ((opn :: befI l).drop (k + 1)) := by rw [hroom, hat, decide_eq_true ⟨by omega, by omega⟩, Bool.true_and]
  refine qd HF rfl (wp_skip (qa ?_))
  refine fp HF 3 0 [(39, vI (IntKind.i64.wrap (r - ((opn :: befI l).getD k 0))))] fun a HF => ?_
  replace HF := HF.sp 39 (vI (r - ((opn :: befI l).getD k 0))) rfl (qf8 ⟨by omega, by omega⟩)
  refine fp HF 1 3 [(9, vI (r - ((opn :: befI l).getD k 0)))] fun a HF => ?_
  refine qb rfl (qa ?_)
  refine fp HF 1 0 [(40, vI (IntKind.i64.wrap ((k : Int) + 1)))] fun a HF => ?_
  replace HF := HF.sp 40 (vI (k + 1 : Nat)) rfl (qo (by omega) (by omega))
  refine fp HF 1 1 [(26, vI (k + 1 : Nat))] fun a HF => ?_
  refine qb rfl ?_
  exact ⟨_, (by omega), k + 1, (r - ((opn :: befI l).getD k 0)), by omega, by omega, by omega, hat2, rfl, HF.sub (by kernel_rfl), HM.picks [0] (by decide) rfl⟩
 have hd27 := of_decide_eq_false hb27
 have hkn : k = 1 + n := by omega
 have hrt : qat qdq (opn :: befI l) = true := by rw [hroom, List.drop_of_length_le (by omega)]; rfl
 refine qd HF rfl (wp_exit (wp_seq (qa ?_)))
 refine fp HF 1 0 [(41, .slice A n c)] fun a HF => ?_
 refine fy HF HM 1 rfl rfl rfl (Yl.len rfl rfl (by kernel_rfl)) fun a HF => ?_
 refine fp HF 2 2 [(44, .bool ((n : Int) == (0 : Int)))] fun a HF => ?_
 rcases HF.tf 44 rfl with ⟨hb44, HF⟩ | ⟨hb44, HF⟩
 ·
  have hd44 := eq_of_beq hb44
  refine fp HF 9 4 [(6, .bool true)] fun a HF => ?_
  refine qb rfl (wp_ret ?_)
  exact ret1 rfl HF (.tmp HF rfl) (⟨by rw [qio (by omega) hrt, qrj (by omega)], HM.below⟩)
 have hd44 := ne_of_beq_false hb44
 refine fp HF 1 4 [(45, .slice A n c)] fun a HF => ?_
 obtain ⟨gA, oA, rfl, _⟩ := hr.zm (Nat.lt_of_le_of_lt (Nat.zero_le _) (show 0 < n from by omega)) (by decide)
 refine fy HF HM 5 rfl rfl rfl (v := vP gA oA) (Yl.indexAddr (ad := ⟨gA, oA, none⟩) (y := 0) (sz := 12) rfl rfl rfl (by omega) (by kernel_rfl)) fun a HF => ?_
 refine fp HF 2 6 [(48, vP gA (oA + 2))] fun a HF => ?_
 refine fy HF HM 8 rfl rfl rfl (v := vB ((l.getD 0 It.zero).e.cpu)) (Yl.qh rfl rfl (by kernel_rfl) (fun _ h => (h.old hr).partAt qab (k := 0) (j := 2) (x := (l.getD 0 It.zero)) ((getD_at It.zero (k := 0) (by first | omega | (simp; omega)))) rfl)) fun a HF => ?_
 refine fp HF 4 9 [(6, .bool (((l.getD 0 It.zero).e.cpu : Int) == (cpu : Int)))] fun a HF => ?_
 refine qb rfl (wp_ret ?_)
 exact ret1 rfl HF (.tmp HF rfl) (⟨by rw [qio (by omega) hrt, qol (by omega)]; congr 2; rw [Bool.eq_iff_iff, beq_iff_eq, decide_eq_true_eq]; omega, HM.below⟩)
theorem qnq (cpu : Nat) (A : Option Addr) (n c : Nat) (l : List It) (opn : Int) (k : Nat) (hG : GoodI cpu l opn) (hk : k ≤ n) (g1 g2 g3 : Nat) (w : World) (hg1 : w.heap[g1]? = some (.cells #[.int .u8 (cpu : Int)] 5 (0, 0))) (hg2 : w.heap[g2]? = some (.cells #[.slice A n c] 22 (0, 0))) (hg3 : w.heap[g3]? = some (.cells #[.int .i64 opn] 3 (0, 0))) (hr : Rd w w.heap.size 12 A l.length (l.flatMap itL)) (hc : n ≤ c) (hln : l.length = n) (hn : n ≤ 1000000) :
    Calls Tryd.prog 35 #[.int .i64 (k : Int), .pointer (some ⟨g1, 0, none⟩), .pointer (some ⟨g2, 0, none⟩), .pointer (some ⟨g3, 0, none⟩)] w (qwh w (ofB cpu l opn k)) := by
 refine qg (vs := [vI k, vP g1 0, vP g2 0, vP g3 0]) Tryd.func35 rfl rfl (by kernel_rfl) (σ0 := [(0, vI k), (1, vP g1 0), (2, vP g2 0), (3, vP g3 0)]) rfl ?_
 intro a HF
 have HM := Mem.start w
 refine wp_seq (qa ?_)
 refine fo HF 0 rfl rfl ?_
 refine qq HF HM (cs := #[vB 0, vB 0, vI 0, vI 0, .slice none 0 0]) rfl (by kernel_rfl) rfl (by decide) ?_
 clear HF HM; intro a w5 g5 HF HM
 refine qb rfl ?_
 refine qaq (fun aS wS => ∃ (A13 : Option Addr) (c13 : Nat) (g6 : Nat), Fr aS 40 [] [(6, vP g6 0), (5, vP g5 0), (0, vI k), (2, vP g2 0), (3, vP g3 0)] ∧ Mem w wS [.blk g6 #[vB 1, vB cpu, vI 0, vI 0, .slice A13 k c13] 41, .row (.slice A13 k c13) k ((evsI (l.take k)).flatMap evL) 45 11, .blk g5 #[vB 0, vB 0, vI 0, vI 0, .slice none 0 0] 41] ∧ (k ≤ c13)) ?_ ?_
 ·
  refine qac HM [.blk g5 #[vB 0, vB 0, vI 0, vI 0, .slice none 0 0] 41] [0] [7] fun HM HS => ?_
  refine ap HF (fun _ => HS) [2] #[false, false, true, false, false, false, false, false] [(11, vI k)] fun a HF => ?_
  refine ay HF HS 0 rfl rfl rfl (v := vB cpu) (Yl.qh rfl rfl (by kernel_rfl) (fun _ h => h.zk hg1 rfl)) fun a HF => ?_
  refine ay HF HS 1 rfl rfl rfl (v := .slice A n c) (Yl.qh rfl rfl (by kernel_rfl) (fun _ h => h.zk hg2 rfl)) fun a HF => ?_
  refine ay HF HS 3 rfl rfl rfl (v := .slice A k c) (Yl.qcc ei_it (j := k) rfl rfl rfl (by omega)) fun a HF => ?_
  refine qj [4, 6] (by kernel_rfl) rfl ?_
  refine all_cons ?_ ?_
  ·refine qn HF (i := 4) rfl rfl ?_
   refine e_cl HF [.slice A k c] rfl rfl (qd9 A k c (l.take k) _ (HM.old (Rd.qsf qab hr (by omega))) (by rw [List.length_take]; omega) (by omega)) ?_
   rintro _ w13 ⟨⟨A13, c13, rfl, ho, hc13⟩, hbw⟩
   refine ⟨_, rfl, ?_⟩
   replace HM := HM.callRow hbw ho
   clear HF; intro a HF
   refine keepS (HM.picks [1] (by decide) rfl) (fun HS => ?_)
   refine ay HF HS 5 rfl rfl rfl (v := .agg #[vB 1, vB cpu, vI 0, vI 0, .slice A13 k c13]) (Yl.build (vs := [(0, vB 1), (1, vB cpu), (4, .slice A13 k c13)]) rfl (by kernel_rfl) (by kernel_rfl)) fun a HF => ?_
   refine qj [6] (by kernel_rfl) rfl ?_
   refine all_cons ?_ all_nil
   refine qn HF (i := 6) rfl rfl ?_
   refine qq HF HM (cs := #[vB 0, vB 0, vI 0, vI 0, .slice none 0 0]) rfl (by kernel_rfl) rfl (by decide) ?_
   clear HF HM; intro a w6 g6 HF HM
   refine keepS (HM.picks [2] (by decide) rfl) (fun HS => ?_)
   refine qj [7] (by kernel_rfl) rfl ?_
   refine all_cons ?_ all_nil
   refine qn HF (i := 7) rfl rfl ?_
   refine e_sa HF HM 0 rfl rfl rfl rfl rfl si_bk rfl rfl (by simp [Value.oneCell']) ?_
   clear HM; intro w1_7 HM
   refine noS (by kernel_rfl) ?_
   refine ql (by kernel_rfl) ?_
   exact ⟨A13, c13, g6, HF.sub (by kernel_rfl), HM.picks [0, 1, 2] (by decide) rfl, hc13⟩
  refine all_cons ?_ all_nil
  refine qn HF (i := 6) rfl rfl ?_
  refine qq HF HM (cs := #[vB 0, vB 0, vI 0, vI 0, .slice none 0 0]) rfl (by kernel_rfl) rfl (by decide) ?_
  clear HF HM; intro a w6 g6 HF HM
  refine keepS (HM.picks [1] (by decide) rfl) (fun HS => ?_)
  refine qj [4] (by kernel_rfl) rfl ?_
  refine all_cons ?_ all_nil
  refine qn HF (i := 4) rfl rfl ?_
  refine e_cl HF [.slice A k c] rfl rfl (qd9 A k c (l.take k) _ (HM.old (Rd.qsf qab hr (by omega))) (by rw [List.length_take]; omega) (by omega)) ?_
  rintro _ w13 ⟨⟨A13, c13, rfl, ho, hc13⟩, hbw⟩
  refine ⟨_, rfl, ?_⟩
  replace HM := HM.callRow hbw ho
  clear HF; intro a HF
  refine keepS (HM.picks [2] (by decide) rfl) (fun HS => ?_)
  refine ay HF HS 5 rfl rfl rfl (v := .agg #[vB 1, vB cpu, vI 0, vI 0, .slice A13 k c13]) (Yl.build (vs := [(0, vB 1), (1, vB cpu), (4, .slice A13 k c13)]) rfl (by kernel_rfl) (by kernel_rfl)) fun a HF => ?_
  refine qj [7] (by kernel_rfl) rfl ?_
  refine all_cons ?_ all_nil
  refine qn HF (i := 7) rfl rfl ?_
  refine e_sa HF HM 1 rfl rfl rfl rfl rfl si_bk rfl rfl (by simp [Value.oneCell']) ?_
  clear HM; intro w1_7 HM
  refine noS (by kernel_rfl) ?_
  refine ql (by kernel_rfl) ?_
  exact ⟨A13, c13, g6, HF.sub (by kernel_rfl), HM.picks [1, 0, 2] (by decide) rfl, hc13⟩
 clear HF HM; rintro a w1 ⟨A13, c13, g6, HF, HM, hc13⟩
 refine wp_seq (wp_seq (qa ?_))
 refine fy HF HM 0 rfl rfl rfl (v := .slice A n c) (Yl.qh rfl rfl (by kernel_rfl) (fun _ h => h.zk hg2 rfl)) fun a HF => ?_
 refine fp HF 1 1 [(16, vI k)] fun a HF => ?_
 refine fy HF HM 2 rfl rfl rfl (v := .slice A k c) (Yl.qcc ei_it (j := k) rfl rfl rfl (by omega)) fun a HF => ?_
 refine fo HF 3 rfl rfl ?_
 refine e_cl HF [.slice A k c] rfl rfl (qiv A k c (l.take k) _ (HM.old (Rd.qsf qab hr (by omega))) (by rw [List.length_take]; omega) (by omega)) ?_
 rintro _ w18 ⟨⟨A18, c18, rfl, ho, hc18⟩, hbw⟩
 refine ⟨_, rfl, ?_⟩
 replace HM := HM.callRow hbw ho
 clear HF; intro a HF
 refine fy HF HM 4 rfl rfl rfl (Yl.len rfl rfl (by kernel_rfl)) fun a HF => ?_
 refine fp HF 1 5 [(20, vI 0)] fun a HF => ?_
 refine qb rfl ?_
 have hbl : (befI (l.take k)).length = k := by rw [qnj, List.length_take]; omega
 refine wp_block ?_
 refine qs (fun mS aS wS => ∃ (j : Nat), (j ≤ k) ∧ mS = k - j ∧ Fr aS 40 [] [(20, vI j), (19, vI k), (18, .slice A18 k c18), (6, vP g6 0), (5, vP g5 0), (0, vI k), (2, vP g2 0), (3, vP g3 0)] ∧ Mem w wS [.row (.slice A18 k c18) k ((befI (l.take k)).map I64i) 3 1, .blk g6 #[vB 1, vB cpu, vI (sumI (befI (l.take j))), vI 0, .slice A13 k c13] 41, .row (.slice A13 k c13) k ((evsI (l.take k)).flatMap evL) 45 11, .blk g5 #[vB 0, vB 0, vI 0, vI 0, .slice none 0 0] 41]) (m := k - 0) ⟨0, Nat.zero_le _, rfl, HF.sub (by kernel_rfl), HM.picks [0, 1, 2, 3] (by decide) rfl⟩ ?_
 clear HF HM; rintro mS a w_ ⟨j, hj, rfl, HF, HM⟩
 refine wp_seq (qa ?_)
 refine fp HF 1 0 [(21, .bool (decide ((j : Int) < (k : Int))))] fun a HF => ?_
 refine qb rfl (wp_seq ?_)
 rcases HF.tf 21 rfl with ⟨hb21, HF⟩ | ⟨hb21, HF⟩
 ·
  have hd21 := of_decide_eq_true hb21
  have hj21 : j < k := by omega
  have ho0 := hG.o0
  have hp0 := hG.part j
  have hp1 := hG.part (j + 1)
  have hps := qhf (l := l) (k := k) (j := j) (by omega) (by omega)
  refine qe HF rfl (wp_skip (wp_seq (wp_block (wp_seq (qa ?_)))))
  obtain ⟨gA18, rfl⟩ := qbl (HM.own (i := 0) rfl) (Nat.lt_of_le_of_lt (Nat.zero_le _) (show j < k from by omega))
  refine fy HF HM 0 rfl rfl rfl (v := vP gA18 (j * 1)) (Yl.ix0 gA18 j 1 rfl rfl rfl) fun a HF => ?_
  refine fy HF HM 1 rfl rfl rfl (v := vI ((befI (l.take k)).getD j 0)) (Yl.qh rfl rfl (by kernel_rfl) (fun _ h => h.qsc (i := 0) rfl (k := j) (qaw (F := I64i) (k := j) (x := ((befI (l.take k)).getD j 0)) ((getD_at 0 (k := j) (by first | omega | (simp; omega))))))) fun a HF => ?_
  refine fp HF 1 2 [(8, vI ((befI (l.take k)).getD j 0))] fun a HF => ?_
  refine qb rfl (qa ?_)
  refine fp HF 1 0 [(24, vP g6 2)] fun a HF => ?_
  refine fy HF HM 1 rfl rfl rfl (Yl.qh rfl rfl (by kernel_rfl) (fun _ h => h.cell (i := 1) rfl rfl)) fun a HF => ?_
  refine fp HF 2 2 [(27, vI (IntKind.i64.wrap ((sumI (befI (l.take j))) + ((befI (l.take k)).getD j 0))))] fun a HF => ?_
  replace HF := HF.sp 27 (vI (sumI (befI (l.take (j + 1))))) rfl (by rw [qhf (k := k) (by omega) (by omega)]; exact qf8 ⟨by omega, by omega⟩)
  refine fp HF 1 4 [(28, vP g6 2)] fun a HF => ?_
  refine fo HF 5 rfl rfl ?_
  refine zb HF HM (i := 1) (cs := #[vB 1, vB cpu, vI (sumI (befI (l.take j))), vI 0, .slice A13 k c13]) rfl rfl rfl rfl (by kernel_rfl) rfl rfl (by simp) ?_
  clear HM; intro w5_5 HM
  refine qb rfl (qa ?_)
  refine fp HF 1 0 [(29, vI (IntKind.i64.wrap ((j : Int) + 1)))] fun a HF => ?_
  replace HF := HF.sp 29 (vI (j + 1 : Nat)) rfl (qo (by omega) (by omega))
  refine fp HF 1 1 [(20, vI (j + 1 : Nat))] fun a HF => ?_
  refine qb rfl ?_
  exact ⟨_, (by omega), j + 1, by omega, rfl, HF.sub (by kernel_rfl), HM.picks [0, 1, 2, 3] (by decide) rfl⟩
 have hd21 := of_decide_eq_false hb21
 obtain rfl : j = k := by omega
 have hp0 := hG.part j
 have ho0 := hG.o0
 refine qd HF rfl (wp_exit (wp_seq (wp_seq (qa ?_))))
 refine fp HF 1 0 [(30, vI j)] fun a HF => ?_
 refine fy HF HM 1 rfl rfl rfl (v := .slice A n c) (Yl.qh rfl rfl (by kernel_rfl) (fun _ h => h.zk hg2 rfl)) fun a HF => ?_
 refine fy HF HM 2 rfl rfl rfl (Yl.len rfl rfl (by kernel_rfl)) fun a HF => ?_
 refine fp HF 1 3 [(33, .bool ((j : Int) == (n : Int)))] fun a HF => ?_
 refine qb rfl ?_
 rcases HF.tf 33 rfl with ⟨hb33, HF⟩ | ⟨hb33, HF⟩
 ·
  have hd33 := eq_of_beq hb33
  have hlo := qrl (cpu := cpu) (opn := opn) (l := l) (k := j) (by omega)
  refine qe HF rfl (qa ?_)
  refine fp HF 1 0 [(34, vP g6 2)] fun a HF => ?_
  refine fy HF HM 1 rfl rfl rfl (Yl.qh rfl rfl (by kernel_rfl) (fun _ h => h.cell (i := 1) rfl rfl)) fun a HF => ?_
  refine fy HF HM 2 rfl rfl rfl (v := vI opn) (Yl.qh rfl rfl (by kernel_rfl) (fun _ h => h.zk hg3 rfl)) fun a HF => ?_
  refine fp HF 1 3 [(37, vI (IntKind.i64.wrap ((sumI (befI (l.take j))) + opn)))] fun a HF => ?_
  replace HF := HF.sp 37 (vI ((sumI (befI (l.take j))) + opn)) rfl (qf8 ⟨by omega, by omega⟩)
  refine fp HF 1 4 [(38, vP g6 2)] fun a HF => ?_
  refine fo HF 5 rfl rfl ?_
  refine zb HF HM (i := 1) (cs := #[vB 1, vB cpu, vI (sumI (befI (l.take j))), vI 0, .slice A13 j c13]) rfl rfl rfl rfl (by kernel_rfl) rfl rfl (by simp) ?_
  clear HM; intro w8_5 HM
  refine qb rfl (wp_seq (qa ?_))
  refine fy HF HM 0 rfl rfl rfl (v := .agg #[vB 1, vB cpu, vI ((sumI (befI (l.take j))) + opn), vI 0, .slice A13 j c13]) (Yl.zl rfl rfl si_bk rfl (fun _ h => qf (h.blk (i := 1) rfl))) fun a HF => ?_
  refine fo HF 1 rfl rfl ?_
  refine e_sa HF HM 3 rfl rfl rfl rfl rfl si_bk rfl rfl (by simp [Value.oneCell']) ?_
  clear HM; intro w9_1 HM
  refine qb rfl (wp_ret ?_)
  exact ret1 rfl HF (.cellS (i := 3) HF HM rfl rfl si_bk rfl) (⟨⟨A13, c13, by rw [← qfb (by omega) (by rw [hlo])], by rw [qbh (by omega)]; exact HM.own (i := 2) rfl, by rw [qbh (by omega)]; omega⟩, HM.below⟩)
 have hd33 := ne_of_beq_false hb33
 have hlo := qrm (cpu := cpu) (opn := opn) (l := l) (k := j) (by omega)
 refine qd HF rfl (wp_skip (wp_seq (qa ?_)))
 refine fy HF HM 0 rfl rfl rfl (v := .agg #[vB 1, vB cpu, vI (sumI (befI (l.take j))), vI 0, .slice A13 j c13]) (Yl.zl rfl rfl si_bk rfl (fun _ h => qf (h.blk (i := 1) rfl))) fun a HF => ?_
 refine fo HF 1 rfl rfl ?_
 refine e_sa HF HM 3 rfl rfl rfl rfl rfl si_bk rfl rfl (by simp [Value.oneCell']) ?_
 clear HM; intro w9_1 HM
 refine qb rfl (wp_ret ?_)
 exact ret1 rfl HF (.cellS (i := 3) HF HM rfl rfl si_bk rfl) (⟨⟨A13, c13, by rw [← qfb (by omega) (by rw [hlo])], by rw [qbh (by omega)]; exact HM.own (i := 2) rfl, by rw [qbh (by omega)]; omega⟩, HM.below⟩)
theorem qld (A : Option Addr) (n c : Nat) (l : List It) (w : World) (hr : Rd w w.heap.size 12 A n (l.flatMap itL)) (hln : l.length = n) (hn : n ≤ 1000000) :
  Calls Tryd.prog 36 #[.slice A n c] w fun r w' => (∃ A c, r = .returned (.slice A (evsI l).length c) ∧ w'.ownsRow w.heap.size 45 11 (.slice A (evsI l).length c) (evsI l).length ((evsI l).flatMap evL) ∧ (evsI l).length ≤ c) ∧ Below w.heap.size w w' := by
 have e : (evsI l).length = n := by rw [qd6]; exact hln
 rw [e]
 exact qd9 A n c l w hr hln hn
theorem qtq (b : Bk) (hok : b.Ok) (hf : b.fits = true) (A : Option Addr) (c B : Nat) (w : World) (hL : LaidX B w) (hB : B ≤ w.heap.size) (hr : Rd w w.heap.size 11 A b.evs.length (b.evs.flatMap evL)) (hn : b.evs.length ≤ 1000000) :
  Calls Tryd.prog 38 #[.agg (b.cells A c)] w (Is w (.tuple #[.int .i64 (b.qeb : Int), .int .i64 0])) := by
 have h := qrv b hok A c B w hL hB hr hn
 unfold Bk.fill at h
 rwa [if_neg (by rw [hf]; decide)] at h
theorem qr0 (cpu : Nat) (hcpu : cpu < 256) (A : Option Addr) (n c : Nat) (l : List It) (opn limit : Int) (hok : ∀ x ∈ l, x.Ok) (ho : I64 opn) (hlm : I64 limit) (B : Nat) (w : World) (hL : LaidX B w) (hB : B ≤ w.heap.size) (hr : Rd w w.heap.size 12 A n (l.flatMap itL)) (hc : n ≤ c) (hln : l.length = n) (hn : n ≤ 1000000) :
    Calls Tryd.prog 12 #[.int .u8 (cpu : Int), .slice A n c, .int .i64 opn, .int .i64 limit] w (qg4 45 41 w (cutS cpu l opn limit).2 (cutS cpu l opn limit).1) := by
 subst hln
 refine qg (vs := [vB cpu, .slice A l.length c, vI opn, vI limit]) Tryd.func12 rfl rfl (by kernel_rfl) (σ0 := [(0, vB cpu), (1, .slice A l.length c), (2, vI opn), (3, vI limit)]) rfl ?_
 intro a HF
 have HM := Mem.start w
 refine wp_seq (qa ?_)
 refine fo HF 0 rfl rfl ?_
 refine e_box HF HM (cs := #[vB cpu]) rfl rfl rfl rfl (by decide) ?_
 clear HF HM; intro a w4 g4 HF HM
 refine fo HF 1 rfl rfl ?_
 refine e_box HF HM (cs := #[.slice A l.length c]) rfl rfl rfl rfl (by decide) ?_
 clear HF HM; intro a w5 g5 HF HM
 refine fo HF 2 rfl rfl ?_
 refine e_box HF HM (cs := #[vI opn]) rfl rfl rfl rfl (by decide) ?_
 clear HF HM; intro a w6 g6 HF HM
 refine fp HF 2 3 [(9, vI 0), (8, .slice none 0 0)] fun a HF => ?_
 refine qb rfl (wp_seq (wp_block (wp_seq (qa ?_))))
 refine fy HF HM 0 rfl rfl rfl (Yl.qh rfl rfl (by kernel_rfl) (fun _ h => h.cell (i := 2) rfl rfl)) fun a HF => ?_
 refine fp HF 2 1 [(17, .bool (decide ((cpu : Int) ≥ (64 : Int))))] fun a HF => ?_
 rcases HF.tf 17 rfl with ⟨hb17, HF⟩ | ⟨hb17, HF⟩
 ·
  have hd17 := of_decide_eq_true hb17
  refine fp HF 8 3 [(14, .bool true)] fun a HF => ?_
  refine qb rfl (qe HF rfl (wp_seq (qa ?_)))
  refine fp HF 2 0 [(9, vI 2), (8, .slice none 0 0)] fun a HF => ?_
  refine qb rfl (wp_ret ?_)
  exact ret2 rfl HF (.tmp HF rfl) (.tmp HF rfl) (by rw [qd7 (by omega)]; exact qbm HM rfl)
 have hd17 := of_decide_eq_false hb17
 refine fp HF 4 3 [(21, .bool (decide ((limit : Int) < (1 : Int))))] fun a HF => ?_
 rcases HF.tf 21 rfl with ⟨hb21, HF⟩ | ⟨hb21, HF⟩
 ·
  have hd21 := of_decide_eq_true hb21
  refine fp HF 4 7 [(14, .bool true)] fun a HF => ?_
  refine qb rfl (qe HF rfl (wp_seq (qa ?_)))
  refine fp HF 2 0 [(9, vI 2), (8, .slice none 0 0)] fun a HF => ?_
  refine qb rfl (wp_ret ?_)
  exact ret2 rfl HF (.tmp HF rfl) (.tmp HF rfl) (by rw [qd7 (by omega)]; exact qbm HM rfl)
 have hd21 := of_decide_eq_false hb21
 refine fp HF 4 7 [(14, .bool (decide ((limit : Int) > (4096 : Int))))] fun a HF => ?_
 refine qb rfl ?_
 rcases HF.tf 14 rfl with ⟨hb14, HF⟩ | ⟨hb14, HF⟩
 ·
  have hd14 := of_decide_eq_true hb14
  refine qe HF rfl (wp_seq (qa ?_))
  refine fp HF 2 0 [(9, vI 2), (8, .slice none 0 0)] fun a HF => ?_
  refine qb rfl (wp_ret ?_)
  exact ret2 rfl HF (.tmp HF rfl) (.tmp HF rfl) (by rw [qd7 (by omega)]; exact qbm HM rfl)
 have hd14 := of_decide_eq_false hb14
 refine qd HF rfl (wp_seq (qa ?_))
 refine fy HF HM 0 rfl rfl rfl (Yl.qh rfl rfl (by kernel_rfl) (fun _ h => h.cell (i := 2) rfl rfl)) fun a HF => ?_
 refine fy HF HM 1 rfl rfl rfl (Yl.qh rfl rfl (by kernel_rfl) (fun _ h => h.cell (i := 1) rfl rfl)) fun a HF => ?_
 refine fy HF HM 2 rfl rfl rfl (Yl.qh rfl rfl (by kernel_rfl) (fun _ h => h.cell (i := 0) rfl rfl)) fun a HF => ?_
 refine fo HF 3 rfl rfl ?_
 refine e_is HF HM [vB cpu, .slice A l.length c, vI opn] (.bool (zr cpu l opn)) rfl rfl (qmm cpu A l.length c l opn hok ho B _ (hL.mem HM hB) (HM.le hB) (HM.old hr) rfl (by omega)) fun w29 hbw HM a HF => ?_
 refine fp HF 2 4 [(25, .bool (!(zr cpu l opn)))] fun a HF => ?_
 refine qb rfl ?_
 rcases HF.tf 25 rfl with ⟨hb25, HF⟩ | ⟨hb25, HF⟩
 ·
  have hbad : zr cpu l opn = false := by simpa using hb25
  refine qe HF rfl (wp_seq (qa ?_))
  refine fp HF 2 0 [(9, vI 110), (8, .slice none 0 0)] fun a HF => ?_
  refine qb rfl (wp_ret ?_)
  exact ret2 rfl HF (.tmp HF rfl) (.tmp HF rfl) (by rw [qim (by omega) hbad]; exact qbm HM rfl)
 have hgood : zr cpu l opn = true := by simpa using hb25
 have hG := GoodI.of (by omega) hok hgood
 refine qd HF rfl (wp_seq (qa ?_))
 refine fy HF HM 0 rfl rfl rfl (Yl.qh rfl rfl (by kernel_rfl) (fun _ h => h.cell (i := 1) rfl rfl)) fun a HF => ?_
 refine fy HF HM 1 rfl rfl rfl (Yl.len rfl rfl (by kernel_rfl)) fun a HF => ?_
 refine fp HF 2 2 [(35, .bool ((l.length : Int) == (0 : Int)))] fun a HF => ?_
 rcases HF.tf 35 rfl with ⟨hb35, HF⟩ | ⟨hb35, HF⟩
 ·
  have hd35 := eq_of_beq hb35
  refine fy HF HM 4 rfl rfl rfl (Yl.qh rfl rfl (by kernel_rfl) (fun _ h => h.cell (i := 0) rfl rfl)) fun a HF => ?_
  refine fp HF 3 5 [(31, .bool ((opn : Int) == (0 : Int)))] fun a HF => ?_
  refine qb rfl ?_
  rcases HF.tf 31 rfl with ⟨hb31, HF⟩ | ⟨hb31, HF⟩
  ·
   have hd31 := eq_of_beq hb31
   refine qe HF rfl (wp_seq (qa ?_))
   refine fp HF 2 0 [(9, vI 0), (8, .slice none 0 0)] fun a HF => ?_
   refine qb rfl (wp_ret ?_)
   exact ret2 rfl HF (.tmp HF rfl) (.tmp HF rfl) (by rw [qko (by omega) hgood (by omega) (by omega)]; exact qbm HM rfl)
  have hd31 := ne_of_beq_false hb31
  refine qd HF rfl (wp_seq (qa ?_))
  refine fy HF HM 0 rfl rfl rfl (Yl.qh rfl rfl (by kernel_rfl) (fun _ h => h.cell (i := 1) rfl rfl)) fun a HF => ?_
  refine fy HF HM 1 rfl rfl rfl (Yl.len rfl rfl (by kernel_rfl)) fun a HF => ?_
  refine fp HF 2 2 [(39, .bool ((l.length : Int) == (0 : Int)))] fun a HF => ?_
  refine qb rfl ?_
  rcases HF.tf 39 rfl with ⟨hb39, HF⟩ | ⟨hb39, HF⟩
  ·
   have hd39 := eq_of_beq hb39
   refine qe HF rfl (wp_seq (qa ?_))
   refine fy HF HM 0 rfl rfl rfl (Yl.qh rfl rfl (by kernel_rfl) (fun _ h => h.cell (i := 2) rfl rfl)) fun a HF => ?_
   refine fy HF HM 1 rfl rfl rfl (Yl.qh rfl rfl (by kernel_rfl) (fun _ h => h.cell (i := 0) rfl rfl)) fun a HF => ?_
   refine fy HF HM 2 rfl rfl rfl (v := .agg #[vB 1, vB cpu, vI opn, vI 0, .slice none 0 0]) (Yl.build (vs := [(0, vB 1), (1, vB cpu), (2, vI opn)]) rfl (by kernel_rfl) (by kernel_rfl)) fun a HF => ?_
   refine fo HF 3 rfl rfl ?_
   refine zp HF HM (vs := [(0, .agg #[vB 1, vB cpu, vI opn, vI 0, .slice none 0 0])]) (cs := #[vB 1, vB cpu, vI opn, vI 0, .slice none 0 0]) rfl qnh (by decide) rfl (by kernel_rfl) rfl (by decide) ?_
   clear HF HM; intro a w46 g46 HF HM
   refine fp HF 2 4 [(9, vI 0), (8, vS g46 1 1)] fun a HF => ?_
   refine qb rfl (wp_ret ?_)
   exact ret2 rfl HF (.tmp HF rfl) (.tmp HF rfl) (by rw [qkp (by omega) hgood (by omega) (by omega)]; exact qta HM (i := 0) rfl)
  have hd39 := ne_of_beq_false hb39
  exfalso; omega
 have hd35 := ne_of_beq_false hb35
 refine fp HF 4 4 [(31, .bool false)] fun a HF => ?_
 refine qb rfl (qd HF rfl (wp_seq (qa ?_)))
 refine fy HF HM 0 rfl rfl rfl (Yl.qh rfl rfl (by kernel_rfl) (fun _ h => h.cell (i := 1) rfl rfl)) fun a HF => ?_
 refine fy HF HM 1 rfl rfl rfl (Yl.len rfl rfl (by kernel_rfl)) fun a HF => ?_
 refine fp HF 2 2 [(39, .bool ((l.length : Int) == (0 : Int)))] fun a HF => ?_
 refine qb rfl ?_
 rcases HF.tf 39 rfl with ⟨hb39, HF⟩ | ⟨hb39, HF⟩
 ·
  have hd39 := eq_of_beq hb39
  exfalso; omega
 have hd39 := ne_of_beq_false hb39
 refine qd HF rfl (wp_skip (wp_seq (qa ?_)))
 refine fy HF HM 0 rfl rfl rfl (v := .func (.func 35) #[] #[vP g4 0, vP g5 0, vP g6 0]) (Yl.makeFunc (fst := []) (caps := [vP g4 0, vP g5 0, vP g6 0]) rfl rfl rfl) fun a HF => ?_
 refine fp HF 1 1 [(10, .func (.func 35) #[] #[vP g4 0, vP g5 0, vP g6 0])] fun a HF => ?_
 refine qb rfl (wp_seq (qa ?_))
 refine fp HF 1 0 [(11, .slice none 0 0)] fun a HF => ?_
 refine qb rfl ?_
 obtain ⟨lim, rfl⟩ : ∃ k : Nat, limit = (k : Int) := ⟨limit.toNat, by omega⟩
 replace HM := HM.nil 41 5
 replace HM : Mem w _ (.row (.slice none 0 0) 0 [] 41 5 :: .blk g6 #[vI opn] 3 :: .blk g5 #[.slice A l.length c] 22 :: .blk g4 #[vB cpu] 5 :: hbF 45 []) := HM
 refine wp_seq (wp_block ?_)
 refine qs (fun mS aS wS => ∃ (r : List It) (X : Option Addr) (cc : Nat) (q : List Hb) (f : Nat) (Ao : Option Addr) (co : Nat), (Rd w w.heap.size 12 X r.length (r.flatMap itL)) ∧ (r.length ≤ cc) ∧ (GoodI cpu r opn) ∧ (r.length ≤ l.length) ∧ (r.length ≤ f) ∧ (q.map Hb.b ++ cutGo cpu opn lim f r = cutGo cpu opn lim l.length l) ∧ (q.length ≤ co) ∧ (q.length + r.length ≤ l.length) ∧ mS = r.length ∧ Fr aS 87 [] [(11, .slice Ao q.length co), (10, .func (.func 35) #[] #[vP g4 0, vP g5 0, vP g6 0]), (39, .bool false), (31, .bool false), (25, .bool false), (14, .bool false), (9, vI 0), (8, .slice none 0 0), (6, vP g6 0), (5, vP g5 0), (4, vP g4 0), (3, vI lim)] ∧ Mem w wS (.row (.slice Ao q.length co) q.length (q.flatMap hbL) 41 5 :: .blk g6 #[vI opn] 3 :: .blk g5 #[.slice X r.length cc] 22 :: .blk g4 #[vB cpu] 5 :: hbF 45 q)) (m := l.length) ⟨l, A, c, [], l.length, none, 0, hr, by omega, hG, by omega, Nat.le_refl _, List.nil_append _, Nat.le_refl _, by simp, rfl, HF.sub (by kernel_rfl), HM.picksT 4 [0, 1, 2, 3] (by decide) (by decide) rfl⟩ ?_
 clear HF HM; rintro mS a w_ ⟨r, X, cc, q, f, Ao, co, hX, hcc, hGr, hrn, hf, hq, hco, hql, rfl, HF, HM⟩
 refine wp_seq (wp_seq (qa ?_))
 refine fy HF HM 0 rfl rfl rfl (Yl.qh rfl rfl (by kernel_rfl) (fun _ h => h.cell (i := 2) rfl rfl)) fun a HF => ?_
 refine fy HF HM 1 rfl rfl rfl (Yl.len rfl rfl (by kernel_rfl)) fun a HF => ?_
 refine fp HF 1 2 [(50, .bool (decide ((r.length : Int) > (0 : Int))))] fun a HF => ?_
 refine qb rfl ?_
 rcases HF.tf 50 rfl with ⟨hb50, HF⟩ | ⟨hb50, HF⟩
 ·
  have hd50 := of_decide_eq_true hb50
  have hr0 : 0 < r.length := by omega
  obtain ⟨m0, hm0⟩ : ∃ m, m = min r.length lim := ⟨_, rfl⟩
  obtain ⟨hmf, hmo, hmb, hmp, hma⟩ := qil hGr (m := m0) (by omega) (by omega)
  have hml : (mostB cpu r m0).evs.length = m0 := by show (evsI (r.take m0)).length = m0; rw [qd6, List.length_take]; omega
  have hcf := qre hGr (limit := lim) (by omega) hr0
  rw [← hm0] at hcf
  obtain ⟨hcp, hcl, hce⟩ := qjn hGr (limit := lim) (by omega) hr0
  have hst := qfy (cpu := cpu) (limit := lim) (opn := opn) hr0 (f := f) (by omega)
  refine qe HF rfl (wp_skip (wp_block (wp_seq (qa ?_))))
  refine fy HF HM 0 rfl rfl rfl (Yl.qh rfl rfl (by kernel_rfl) (fun _ h => h.cell (i := 2) rfl rfl)) fun a HF => ?_
  refine fy HF HM 1 rfl rfl rfl (Yl.len rfl rfl (by kernel_rfl)) fun a HF => ?_
  refine fp HF 1 2 [(53, vI lim)] fun a HF => ?_
  refine fy HF HM 3 rfl rfl rfl (v := vI (if (lim : Int) < (r.length : Int) then (lim : Int) else (r.length : Int))) (Yl.min rfl rfl rfl) fun a HF => ?_
  replace HF := HF.sp 54 (vI m0) rfl (by rw [hm0]; congr 1; split <;> omega)
  refine fp HF 1 4 [(12, vI m0)] fun a HF => ?_
  refine qb rfl ?_
  refine qaq (fun aS wS => ∃ (A59 : Option Addr) (c59 : Nat) (g13 : Nat), Fr aS 87 [] [(13, vP g13 0), (12, vI m0), (50, .bool true), (11, .slice Ao q.length co), (10, .func (.func 35) #[] #[vP g4 0, vP g5 0, vP g6 0]), (39, .bool false), (31, .bool false), (25, .bool false), (14, .bool false), (9, vI 0), (8, .slice none 0 0), (6, vP g6 0), (5, vP g5 0), (4, vP g4 0), (3, vI lim)] ∧ Mem w wS (.blk g13 #[vB 1, vB cpu, vI 0, vI 0, .slice A59 ((evsI (r.take m0)).length) c59] 41 :: .row (.slice A59 ((evsI (r.take m0)).length) c59) ((evsI (r.take m0)).length) ((evsI (r.take m0)).flatMap evL) 45 11 :: .row (.slice Ao q.length co) q.length (q.flatMap hbL) 41 5 :: .blk g6 #[vI opn] 3 :: .blk g5 #[.slice X r.length cc] 22 :: .blk g4 #[vB cpu] 5 :: hbF 45 q) ∧ ((evsI (r.take m0)).length ≤ c59)) ?_ ?_
  ·
   refine qqq HM (.row (.slice Ao q.length co) q.length (q.flatMap hbL) 41 5 :: .blk g6 #[vI opn] 3 :: .blk g5 #[.slice X r.length cc] 22 :: .blk g4 #[vB cpu] 5 :: hbF 45 q) 4 [0, 1, 2, 3] [7] fun HM HS => ?_
   refine ap HF (fun _ => HS) [2] #[false, false, true, false, false, false, false, false] [(57, vI m0)] fun a HF => ?_
   refine ay HF HS 0 rfl rfl rfl (Yl.qh rfl rfl (by kernel_rfl) (fun _ h => h.cell (i := 3) rfl rfl)) fun a HF => ?_
   refine ay HF HS 1 rfl rfl rfl (Yl.qh rfl rfl (by kernel_rfl) (fun _ h => h.cell (i := 2) rfl rfl)) fun a HF => ?_
   refine ay HF HS 3 rfl rfl rfl (v := .slice X m0 cc) (Yl.qcc ei_it (j := m0) rfl rfl rfl (by omega)) fun a HF => ?_
   refine qj [4, 6] (by kernel_rfl) rfl ?_
   refine all_cons ?_ ?_
   ·refine qn HF (i := 4) rfl rfl ?_
    refine e_cl HF [.slice X m0 cc] rfl rfl (qld X m0 cc (r.take m0) _ (HM.old (Rd.qsf qab hX (by omega))) (by rw [List.length_take]; omega) (by omega)) ?_
    rintro _ w59 ⟨⟨A59, c59, rfl, ho, hc59⟩, hbw⟩
    refine ⟨_, rfl, ?_⟩
    replace HM := HM.callRow hbw ho
    clear HF; intro a HF
    refine keepS (HM.picksT 5 [1, 2, 3, 4] (by decide) (by decide) rfl) (fun HS => ?_)
    refine ay HF HS 5 rfl rfl rfl (v := .agg #[vB 1, vB cpu, vI 0, vI 0, .slice A59 ((evsI (r.take m0)).length) c59]) (Yl.build (vs := [(0, vB 1), (1, vB cpu), (4, .slice A59 ((evsI (r.take m0)).length) c59)]) rfl (by kernel_rfl) (by kernel_rfl)) fun a HF => ?_
    refine qj [6] (by kernel_rfl) rfl ?_
    refine all_cons ?_ all_nil
    refine qn HF (i := 6) rfl rfl ?_
    refine qq HF HM (cs := #[vB 0, vB 0, vI 0, vI 0, .slice none 0 0]) rfl (by kernel_rfl) rfl (by decide) ?_
    clear HF HM; intro a w13 g13 HF HM
    refine keepS (HM.picksT 6 [2, 3, 4, 5] (by decide) (by decide) rfl) (fun HS => ?_)
    refine qj [7] (by kernel_rfl) rfl ?_
    refine all_cons ?_ all_nil
    refine qn HF (i := 7) rfl rfl ?_
    refine e_sa HF HM 0 rfl rfl rfl rfl rfl si_bk rfl rfl (by simp [Value.oneCell']) ?_
    clear HM; intro w13_7 HM
    refine noS (by kernel_rfl) ?_
    refine ql (by kernel_rfl) ?_
    exact ⟨A59, c59, g13, HF.sub (by kernel_rfl), HM.picksT 6 [0, 1, 2, 3, 4, 5] (by decide) (by decide) rfl, hc59⟩
   refine all_cons ?_ all_nil
   refine qn HF (i := 6) rfl rfl ?_
   refine qq HF HM (cs := #[vB 0, vB 0, vI 0, vI 0, .slice none 0 0]) rfl (by kernel_rfl) rfl (by decide) ?_
   clear HF HM; intro a w13 g13 HF HM
   refine keepS (HM.picksT 5 [1, 2, 3, 4] (by decide) (by decide) rfl) (fun HS => ?_)
   refine qj [4] (by kernel_rfl) rfl ?_
   refine all_cons ?_ all_nil
   refine qn HF (i := 4) rfl rfl ?_
   refine e_cl HF [.slice X m0 cc] rfl rfl (qld X m0 cc (r.take m0) _ (HM.old (Rd.qsf qab hX (by omega))) (by rw [List.length_take]; omega) (by omega)) ?_
   rintro _ w59 ⟨⟨A59, c59, rfl, ho, hc59⟩, hbw⟩
   refine ⟨_, rfl, ?_⟩
   replace HM := HM.callRow hbw ho
   clear HF; intro a HF
   refine keepS (HM.picksT 6 [2, 3, 4, 5] (by decide) (by decide) rfl) (fun HS => ?_)
   refine ay HF HS 5 rfl rfl rfl (v := .agg #[vB 1, vB cpu, vI 0, vI 0, .slice A59 ((evsI (r.take m0)).length) c59]) (Yl.build (vs := [(0, vB 1), (1, vB cpu), (4, .slice A59 ((evsI (r.take m0)).length) c59)]) rfl (by kernel_rfl) (by kernel_rfl)) fun a HF => ?_
   refine qj [7] (by kernel_rfl) rfl ?_
   refine all_cons ?_ all_nil
   refine qn HF (i := 7) rfl rfl ?_
   refine e_sa HF HM 1 rfl rfl rfl rfl rfl si_bk rfl rfl (by simp [Value.oneCell']) ?_
   clear HM; intro w13_7 HM
   refine noS (by kernel_rfl) ?_
   refine ql (by kernel_rfl) ?_
   exact ⟨A59, c59, g13, HF.sub (by kernel_rfl), HM.picksT 6 [1, 0, 2, 3, 4, 5] (by decide) (by decide) rfl, hc59⟩
  clear HF HM; rintro a w13 ⟨A59, c59, g13, HF, HM, hc59⟩
  refine wp_seq (qa ?_)
  refine fy HF HM 0 rfl rfl rfl (v := .agg #[vB 1, vB cpu, vI 0, vI 0, .slice A59 ((evsI (r.take m0)).length) c59]) (Yl.zl rfl rfl si_bk rfl (fun _ h => qf (h.blk (i := 0) rfl))) fun a HF => ?_
  refine fo HF 1 rfl rfl ?_
  refine e_is HF HM [.agg #[vB 1, vB cpu, vI 0, vI 0, .slice A59 ((evsI (r.take m0)).length) c59]] (.tuple #[vI ((mostB cpu r m0).qeb), vI 0]) rfl rfl (qtq (mostB cpu r m0) hmo hmf A59 c59 B _ (hL.mem HM hB) (HM.le hB) (HM.rd (i := 1) rfl) (by rw [hml]; omega)) fun w63 hbw HM a HF => ?_
  refine fp HF 4 2 [(12, vI ((mostB cpu r m0).qeb))] fun a HF => ?_
  refine qb rfl (wp_seq (wp_block ?_))
  refine qs (fun mS aS wS => ∃ (m : Nat), (m ≤ r.length) ∧ (cutN cpu r opn lim ≤ m) ∧ (cutN cpu r opn lim = qam (fun n => decide ((ofB cpu r opn n).err = 0)) m) ∧ mS = 0 + m ∧ Fr aS 87 [] [(12, vI m), (13, vP g13 0), (50, .bool true), (11, .slice Ao q.length co), (10, .func (.func 35) #[] #[vP g4 0, vP g5 0, vP g6 0]), (39, .bool false), (31, .bool false), (25, .bool false), (14, .bool false), (9, vI 0), (8, .slice none 0 0), (6, vP g6 0), (5, vP g5 0), (4, vP g4 0), (3, vI lim)] ∧ Mem w wS (.blk g13 #[vB 1, vB cpu, vI 0, vI 0, .slice A59 ((evsI (r.take m0)).length) c59] 41 :: .row (.slice A59 ((evsI (r.take m0)).length) c59) ((evsI (r.take m0)).length) ((evsI (r.take m0)).flatMap evL) 45 11 :: .row (.slice Ao q.length co) q.length (q.flatMap hbL) 41 5 :: .blk g6 #[vI opn] 3 :: .blk g5 #[.slice X r.length cc] 22 :: .blk g4 #[vB cpu] 5 :: hbF 45 q)) (m := 0 + ((mostB cpu r m0).qeb)) ⟨(mostB cpu r m0).qeb, by omega, by rw [hcf]; exact qb9 _ _, hcf, rfl, HF.sub (by kernel_rfl), HM.picksT 6 [0, 1, 2, 3, 4, 5] (by decide) (by decide) rfl⟩ ?_
  clear HF HM; rintro mS a w_ ⟨m, hm, hmc, hdn, rfl, HF, HM⟩
  refine wp_seq (wp_seq (qa ?_))
  refine fp HF 2 0 [(67, vI m), (66, .func (.func 35) #[] #[vP g4 0, vP g5 0, vP g6 0])] fun a HF => ?_
  refine fo HF 2 rfl rfl ?_
  refine qck HF (f := 35) (vs := [vI m]) (fst := []) (caps := [vP g4 0, vP g5 0, vP g6 0]) rfl rfl rfl (by kernel_rfl) rfl (by decide) (qnq cpu X r.length cc r opn m hGr (by omega) g4 g5 g6 _ (HM.blk (i := 5) rfl) (HM.blk (i := 4) rfl) (HM.blk (i := 3) rfl) (HM.old hX) hcc rfl (by omega)) ?_
  rintro _ w68 ⟨⟨A68, c68, rfl, ho, hc68⟩, hbw⟩
  refine ⟨_, rfl, ?_⟩
  replace HM := HM.callRow hbw ho
  clear HF; intro a HF
  refine fo HF 3 rfl rfl ?_
  refine e_is HF HM [.agg ((ofB cpu r opn m).cells A68 c68)] (vI ((ofB cpu r opn m).err)) rfl rfl (qq5 (ofB cpu r opn m) (qrc hGr m) A68 c68 B _ (hL.mem HM hB) (HM.le hB) (HM.rd (i := 0) rfl) (by rw [qbh (by omega)]; omega) rfl) fun w69 hbw HM a HF => ?_
  refine fp HF 1 4 [(70, .bool (((ofB cpu r opn m).err : Int) != (0 : Int)))] fun a HF => ?_
  refine qb rfl ?_
  rcases HF.tf 70 rfl with ⟨hb70, HF⟩ | ⟨hb70, HF⟩
  ·
   have hd70 := bne_iff_ne.1 hb70
   have hdd := qhc (p := (fun n => decide ((ofB cpu r opn n).err = 0))) (m := m) (by rw [decide_eq_false_iff_not]; omega) (by omega)
   have hle := qb9 (fun n => decide ((ofB cpu r opn n).err = 0)) (m - 1)
   refine qe HF rfl (wp_skip (wp_block (qa ?_)))
   refine fp HF 2 0 [(72, vI (IntKind.i64.wrap ((m : Int) - 1)))] fun a HF => ?_
   replace HF := HF.sp 72 (vI (m - 1 : Nat)) rfl (qo (by omega) (by omega))
   refine fp HF 1 2 [(12, vI (m - 1 : Nat))] fun a HF => ?_
   refine qb rfl ?_
   exact ⟨_, (by omega), (m - 1), by omega, by rw [hdn, hdd]; exact hle, hdn.trans hdd, rfl, HF.sub (by kernel_rfl), HM.picksT 7 [1, 2, 3, 4, 5, 6] (by decide) (by decide) rfl⟩
  have hd70 := bne_eq_false_iff_eq.1 hb70
  have hhere := qhd (p := (fun n => decide ((ofB cpu r opn n).err = 0))) (m := m) (by rw [decide_eq_true_eq]; omega)
  rw [hdn, hhere] at hst
  refine qd HF rfl (wp_exit (wp_seq (qa ?_)))
  refine fp HF 3 0 [(75, vI m), (74, .func (.func 35) #[] #[vP g4 0, vP g5 0, vP g6 0]), (73, .slice Ao q.length co)] fun a HF => ?_
  refine fo HF 3 rfl rfl ?_
  refine qck HF (f := 35) (vs := [vI m]) (fst := []) (caps := [vP g4 0, vP g5 0, vP g6 0]) rfl rfl rfl (by kernel_rfl) rfl (by decide) (qnq cpu X r.length cc r opn m hGr (by omega) g4 g5 g6 _ (HM.blk (i := 6) rfl) (HM.blk (i := 5) rfl) (HM.blk (i := 4) rfl) (HM.old hX) hcc rfl (by omega)) ?_
  rintro _ w76 ⟨⟨A76, c76, rfl, ho, hc76⟩, hbw⟩
  refine ⟨_, rfl, ?_⟩
  replace HM := HM.callRow hbw ho
  clear HF; intro a HF
  refine fo HF 4 rfl rfl ?_
  refine zp HF HM (vs := [(0, .agg ((ofB cpu r opn m).cells A76 c76))]) (cs := ((ofB cpu r opn m).cells A76 c76)) rfl qnh (by decide) rfl (by kernel_rfl) rfl (by decide) ?_
  clear HF HM; intro a w77 g77 HF HM
  refine fo HF 5 rfl rfl ?_
  refine qz HF HM (i := 5) rfl qnh rfl rfl rfl (news := (hbL (⟨ofB cpu r opn m, A76, c76⟩ : Hb))) (HM.rdBlk (i := 0) (n := 1) (size := 5) rfl rfl) (qbv _ _ _) (by omega) (by omega) rfl (by decide) ?_
  clear HF HM; intro a w78 A78 c78 HF HM hc78
  refine fp HF 1 6 [(11, .slice A78 (q.length + 1) c78)] fun a HF => ?_
  refine qb rfl ?_
  have hnA78 : q.length + 1 = (q ++ [(⟨ofB cpu r opn m, A76, c76⟩ : Hb)]).length := by rw [List.length_append]; rfl
  replace HM := HM.reRow (i := 5) (ys := (q ++ [(⟨ofB cpu r opn m, A76, c76⟩ : Hb)]).flatMap hbL) rfl hnA78 (by rw [List.flatMap_append, List.flatMap_cons, List.flatMap_nil, List.append_nil])
  rw [hnA78] at hc78
  replace HF := HF.as (t := 11) (u := .slice A78 ((q ++ [(⟨ofB cpu r opn m, A76, c76⟩ : Hb)]).length) c78) rfl (by rw [hnA78])
  replace HF := HF.as (t := 78) (u := .slice A78 ((q ++ [(⟨ofB cpu r opn m, A76, c76⟩ : Hb)]).length) c78) rfl (by rw [hnA78])
  replace HM := Mem.qvj (a := [.blk g77 ((ofB cpu r opn m).cells A76 c76) 41, .row (.slice A68 ((ofB cpu r opn m).evs.length) c68) ((ofB cpu r opn m).evs.length) ((ofB cpu r opn m).evs.flatMap evL) 45 11, .blk g13 #[vB 1, vB cpu, vI 0, vI 0, .slice A59 ((evsI (r.take m0)).length) c59] 41, .row (.slice A59 ((evsI (r.take m0)).length) c59) ((evsI (r.take m0)).length) ((evsI (r.take m0)).flatMap evL) 45 11, .row (.slice A78 ((q ++ [(⟨ofB cpu r opn m, A76, c76⟩ : Hb)]).length) c78) ((q ++ [(⟨ofB cpu r opn m, A76, c76⟩ : Hb)]).length) ((q ++ [(⟨ofB cpu r opn m, A76, c76⟩ : Hb)]).flatMap hbL) 41 5, .blk g6 #[vI opn] 3, .blk g5 #[.slice X r.length cc] 22, .blk g4 #[vB cpu] 5]) (q := q) (HM.picksT (fs' := (.row (.slice A76 ((ofB cpu r opn m).evs.length) c76) ((ofB cpu r opn m).evs.length) ((ofB cpu r opn m).evs.flatMap evL) 45 11 :: .blk g77 ((ofB cpu r opn m).cells A76 c76) 41 :: .row (.slice A68 ((ofB cpu r opn m).evs.length) c68) ((ofB cpu r opn m).evs.length) ((ofB cpu r opn m).evs.flatMap evL) 45 11 :: .blk g13 #[vB 1, vB cpu, vI 0, vI 0, .slice A59 ((evsI (r.take m0)).length) c59] 41 :: .row (.slice A59 ((evsI (r.take m0)).length) c59) ((evsI (r.take m0)).length) ((evsI (r.take m0)).flatMap evL) 45 11 :: .row (.slice A78 ((q ++ [(⟨ofB cpu r opn m, A76, c76⟩ : Hb)]).length) c78) ((q ++ [(⟨ofB cpu r opn m, A76, c76⟩ : Hb)]).length) ((q ++ [(⟨ofB cpu r opn m, A76, c76⟩ : Hb)]).flatMap hbL) 41 5 :: .blk g6 #[vI opn] 3 :: .blk g5 #[.slice X r.length cc] 22 :: .blk g4 #[vB cpu] 5 :: hbF 45 q)) 9 [1, 0, 2, 3, 4, 5, 6, 7, 8] (by decide) (by decide) rfl) rfl
  replace HM : Mem w _ (.blk g77 ((ofB cpu r opn m).cells A76 c76) 41 :: .row (.slice A68 ((ofB cpu r opn m).evs.length) c68) ((ofB cpu r opn m).evs.length) ((ofB cpu r opn m).evs.flatMap evL) 45 11 :: .blk g13 #[vB 1, vB cpu, vI 0, vI 0, .slice A59 ((evsI (r.take m0)).length) c59] 41 :: .row (.slice A59 ((evsI (r.take m0)).length) c59) ((evsI (r.take m0)).length) ((evsI (r.take m0)).flatMap evL) 45 11 :: .row (.slice A78 ((q ++ [(⟨ofB cpu r opn m, A76, c76⟩ : Hb)]).length) c78) ((q ++ [(⟨ofB cpu r opn m, A76, c76⟩ : Hb)]).length) ((q ++ [(⟨ofB cpu r opn m, A76, c76⟩ : Hb)]).flatMap hbL) 41 5 :: .blk g6 #[vI opn] 3 :: .blk g5 #[.slice X r.length cc] 22 :: .blk g4 #[vB cpu] 5 :: hbF 45 (q ++ [(⟨ofB cpu r opn m, A76, c76⟩ : Hb)])) := HM
  refine qa ?_
  refine fy HF HM 0 rfl rfl rfl (Yl.qh rfl rfl (by kernel_rfl) (fun _ h => h.cell (i := 6) rfl rfl)) fun a HF => ?_
  refine fp HF 1 1 [(80, vI m)] fun a HF => ?_
  refine fy HF HM 2 rfl rfl rfl (Yl.qh rfl rfl (by kernel_rfl) (fun _ h => h.cell (i := 6) rfl rfl)) fun a HF => ?_
  refine fy HF HM 3 rfl rfl rfl (Yl.len rfl rfl (by kernel_rfl)) fun a HF => ?_
  refine fy HF HM 4 rfl rfl rfl (Yl.qh rfl rfl (by kernel_rfl) (fun _ h => h.cell (i := 6) rfl rfl)) fun a HF => ?_
  refine fy HF HM 5 rfl rfl rfl (Yl.len rfl rfl (by kernel_rfl)) fun a HF => ?_
  refine fy HF HM 6 rfl rfl rfl (v := .slice (if r.length = m then X else X.map (·.add (m * 12))) (r.length - m) (r.length - m)) (Yl.qws ei_it (i := m) (j := r.length) (q := r.length) rfl rfl rfl rfl rfl (by omega) (by omega) (by omega)) fun a HF => ?_
  replace HF := HF.sp 85 (.slice (if r.length = m then X else X.map (·.add (m * 12))) ((r.drop m).length) ((r.drop m).length)) rfl (by rw [List.length_drop])
  refine fo HF 7 rfl rfl ?_
  refine zb HF HM (i := 6) (cs := #[.slice X r.length cc]) rfl rfl rfl rfl (by kernel_rfl) rfl rfl (by simp) ?_
  clear HM; intro w18_7 HM
  refine qb rfl ?_
  exact ⟨_, (by rw [List.length_drop]; omega), (r.drop m), if r.length = m then X else X.map (·.add (m * 12)), (r.drop m).length, (q ++ [(⟨ofB cpu r opn m, A76, c76⟩ : Hb)]), (f - 1), A78, c78, Rd.qwt qab hX (by omega) (Nat.le_refl _), Nat.le_refl _, hGr.drop m, by rw [List.length_drop]; omega, by rw [List.length_drop]; omega, by rw [← hq, hst, List.map_append, List.append_assoc]; rfl, hc78, by rw [List.length_append, List.length_drop, List.length_singleton]; omega, rfl, HF.sub (by kernel_rfl), HM.picksT 8 [4, 5, 6, 7] (by decide) (by decide) rfl⟩
 have hd50 := of_decide_eq_false hb50
 have hq2 : q.map Hb.b = cutGo cpu opn lim l.length l := by rw [← hq, qhb (by omega), List.append_nil]
 refine qd HF rfl (wp_exit (wp_seq (qa ?_)))
 refine fp HF 3 0 [(9, vI 0), (8, .slice Ao q.length co)] fun a HF => ?_
 refine qb rfl (wp_ret ?_)
 replace HM := HM.picksT (fs' := (.row (.slice Ao q.length co) q.length (q.flatMap hbL) 41 5 :: hbF 45 q)) 4 [0] (by decide) (by decide) rfl
 exact ret2 rfl HF (.tmp HF rfl) (.tmp HF rfl) (by rw [qkq (by omega) hgood (by omega), ← hq2]; exact qmb HM hco)
theorem qk0 (cpu : Nat) (A : Option Addr) (n c : Nat) (l : List It) (opn : Int) (hok : ∀ x ∈ l, x.Ok) (ho : I64 opn) (w : World) (hr : Rd w w.heap.size 12 A n (l.flatMap itL)) (hln : l.length = n) (hn : n ≤ 1000000) :
    Calls Tryd.prog 48 #[.int .u8 (cpu : Int), .slice A n c, .int .i64 opn] w (Is w (.bool (qdd cpu l opn))) := by
 refine qg (vs := [vB cpu, .slice A n c, vI opn]) Tryd.func48 rfl rfl (by kernel_rfl) (σ0 := [(0, vB cpu), (1, .slice A n c), (2, vI opn)]) rfl ?_
 intro a HF
 have HM := Mem.start w
 refine wp_seq (qa ?_)
 refine fp HF 1 0 [(6, .bool false)] fun a HF => ?_
 refine qb rfl (wp_seq (qa ?_))
 refine fp HF 1 0 [(7, .slice none 0 0)] fun a HF => ?_
 refine qb rfl ?_
 replace HM := HM.nil 117 11
 refine wp_seq (wp_seq (qa ?_))
 refine fp HF 3 0 [(14, .bool (decide ((opn : Int) < (0 : Int))))] fun a HF => ?_
 rcases HF.tf 14 rfl with ⟨hb14, HF⟩ | ⟨hb14, HF⟩
 ·
  have hd14 := of_decide_eq_true hb14
  refine fp HF 3 3 [(17, .bool true)] fun a HF => ?_
  refine qb rfl (qe HF rfl (wp_seq (qa ?_)))
  refine fp HF 1 0 [(6, .bool false)] fun a HF => ?_
  refine qb rfl (wp_ret ?_)
  exact ret1 rfl HF (.tmp HF rfl) (⟨by rw [qin (by omega)], HM.below⟩)
 have hd14 := of_decide_eq_false hb14
 refine fp HF 3 3 [(17, .bool (decide ((opn : Int) > (281474976710656 : Int))))] fun a HF => ?_
 refine qb rfl ?_
 rcases HF.tf 17 rfl with ⟨hb17, HF⟩ | ⟨hb17, HF⟩
 ·
  have hd17 := of_decide_eq_true hb17
  refine qe HF rfl (wp_seq (qa ?_))
  refine fp HF 1 0 [(6, .bool false)] fun a HF => ?_
  refine qb rfl (wp_ret ?_)
  exact ret1 rfl HF (.tmp HF rfl) (⟨by rw [qin (by omega)], HM.below⟩)
 have hd17 := of_decide_eq_false hb17
 refine qd HF rfl (wp_skip (wp_seq (qa ?_)))
 refine fp HF 2 0 [(8, vI opn)] fun a HF => ?_
 refine qb rfl (wp_seq (wp_seq (qa ?_)))
 refine fp HF 1 0 [(9, vI 0)] fun a HF => ?_
 refine qb rfl (wp_block ?_)
 refine qs (fun mS aS wS => ∃ (k : Nat) (u : Int) (Ak : Option Addr) (ck : Nat), (k ≤ n) ∧ (k ≤ ck) ∧ (0 ≤ u) ∧ (u ≤ 281474976710656) ∧ (qa8 cpu opn l = qa8 cpu u (l.drop k)) ∧ mS = n - k ∧ Fr aS 73 [] [(9, vI k), (8, vI u), (17, .bool false), (7, .slice Ak k ck), (6, .bool false), (0, vB cpu), (1, .slice A n c), (2, vI opn)] ∧ Mem w wS [.row (.slice Ak k ck) k ((evsI (l.take k)).flatMap evL) 117 11]) (m := n - 0) ⟨0, opn, none, 0, Nat.zero_le _, Nat.le_refl _, by omega, by omega, rfl, rfl, HF.sub (by kernel_rfl), HM.picks [0] (by decide) rfl⟩ ?_
 clear HF HM; rintro mS a w_ ⟨k, u, Ak, ck, hk, hck, hu0, hu1, hup, rfl, HF, HM⟩
 refine wp_seq (wp_seq (qa ?_))
 refine fp HF 2 0 [(20, .slice A n c), (19, vI k)] fun a HF => ?_
 refine fy HF HM 2 rfl rfl rfl (Yl.len rfl rfl (by kernel_rfl)) fun a HF => ?_
 refine fp HF 1 3 [(22, .bool (decide ((k : Int) < (n : Int))))] fun a HF => ?_
 refine qb rfl ?_
 rcases HF.tf 22 rfl with ⟨hb22, HF⟩ | ⟨hb22, HF⟩
 ·
  have hd22 := of_decide_eq_true hb22
  have hk22 : k < n := by omega
  have hat := qoj (cpu := cpu) (s := u) (l := l) (k := k) It.zero (by omega)
  refine qe HF rfl (wp_skip (wp_seq (wp_block (wp_seq (wp_seq (qa ?_))))))
  refine fp HF 2 0 [(26, vI k), (25, .slice A n c)] fun a HF => ?_
  obtain ⟨gA, oA, rfl, _⟩ := hr.zm (Nat.lt_of_le_of_lt (Nat.zero_le _) (show k < n from by omega)) (by decide)
  refine fy HF HM 2 rfl rfl rfl (v := vP gA (oA + k * 12)) (Yl.ix gA oA k 12 rfl rfl rfl) fun a HF => ?_
  refine fp HF 1 3 [(28, vP gA (oA + k * 12 + 11))] fun a HF => ?_
  refine fy HF HM 4 rfl rfl rfl (v := vI ((l.getD k It.zero).before)) (Yl.qh rfl rfl (by kernel_rfl) (fun _ h => (h.old hr).partAt qab (k := k) (j := 11) (x := (l.getD k It.zero)) ((getD_at It.zero (k := k) (by first | omega | (simp; omega)))) rfl)) fun a HF => ?_
  refine fp HF 2 5 [(31, .bool (decide (((l.getD k It.zero).before : Int) < (0 : Int))))] fun a HF => ?_
  rcases HF.tf 31 rfl with ⟨hb31, HF⟩ | ⟨hb31, HF⟩
  ·
   have hd31 := of_decide_eq_true hb31
   refine fp HF 19 7 [(50, .bool true)] fun a HF => ?_
   refine qb rfl (qe HF rfl (wp_seq (qa ?_)))
   refine fp HF 1 0 [(6, .bool false)] fun a HF => ?_
   refine qb rfl (wp_ret ?_)
   exact ret1 rfl HF (.tmp HF rfl) (⟨by rw [qhe (by rw [hup, hat, decide_eq_false (by omega), Bool.false_and])], HM.below⟩)
  have hd31 := of_decide_eq_false hb31
  refine fp HF 2 7 [(33, vI k), (32, .slice (some ⟨gA, oA, none⟩) n c)] fun a HF => ?_
  refine fy HF HM 9 rfl rfl rfl (v := vP gA (oA + k * 12)) (Yl.ix gA oA k 12 rfl rfl rfl) fun a HF => ?_
  refine fp HF 1 10 [(35, vP gA (oA + k * 12 + 11))] fun a HF => ?_
  refine fy HF HM 11 rfl rfl rfl (v := vI ((l.getD k It.zero).before)) (Yl.qh rfl rfl (by kernel_rfl) (fun _ h => (h.old hr).partAt qab (k := k) (j := 11) (x := (l.getD k It.zero)) ((getD_at It.zero (k := k) (by first | omega | (simp; omega)))) rfl)) fun a HF => ?_
  refine fp HF 2 12 [(38, vI (IntKind.i64.wrap (281474976710656 - u)))] fun a HF => ?_
  replace HF := HF.sp 38 (vI (281474976710656 - u)) rfl (qf8 ⟨by omega, by omega⟩)
  refine fp HF 3 14 [(41, .bool (decide (((l.getD k It.zero).before : Int) > (281474976710656 - u : Int))))] fun a HF => ?_
  rcases HF.tf 41 rfl with ⟨hb41, HF⟩ | ⟨hb41, HF⟩
  ·
   have hd41 := of_decide_eq_true hb41
   refine fp HF 9 17 [(50, .bool true)] fun a HF => ?_
   refine qb rfl (qe HF rfl (wp_seq (qa ?_)))
   refine fp HF 1 0 [(6, .bool false)] fun a HF => ?_
   refine qb rfl (wp_ret ?_)
   exact ret1 rfl HF (.tmp HF rfl) (⟨by rw [qhe (by rw [hup, hat, decide_eq_false (by omega), Bool.false_and])], HM.below⟩)
  have hd41 := of_decide_eq_false hb41
  refine fp HF 2 17 [(43, vI k), (42, .slice (some ⟨gA, oA, none⟩) n c)] fun a HF => ?_
  refine fy HF HM 19 rfl rfl rfl (v := vP gA (oA + k * 12)) (Yl.ix gA oA k 12 rfl rfl rfl) fun a HF => ?_
  refine fp HF 2 20 [(46, vP gA (oA + k * 12 + 2))] fun a HF => ?_
  refine fy HF HM 22 rfl rfl rfl (v := vB ((l.getD k It.zero).e.cpu)) (Yl.qh rfl rfl (by kernel_rfl) (fun _ h => (h.old hr).partAt qab (k := k) (j := 2) (x := (l.getD k It.zero)) ((getD_at It.zero (k := k) (by first | omega | (simp; omega)))) rfl)) fun a HF => ?_
  refine fp HF 3 23 [(50, .bool (((l.getD k It.zero).e.cpu : Int) != (cpu : Int)))] fun a HF => ?_
  refine qb rfl ?_
  rcases HF.tf 50 rfl with ⟨hb50, HF⟩ | ⟨hb50, HF⟩
  ·
   have hd50 := bne_iff_ne.1 hb50
   refine qe HF rfl (wp_seq (qa ?_))
   refine fp HF 1 0 [(6, .bool false)] fun a HF => ?_
   refine qb rfl (wp_ret ?_)
   exact ret1 rfl HF (.tmp HF rfl) (⟨by rw [qhe (by rw [hup, hat, decide_eq_false (by omega), Bool.false_and])], HM.below⟩)
  have hd50 := bne_eq_false_iff_eq.1 hb50
  have hup2 : qa8 cpu opn l = qa8 cpu (u + (l.getD k It.zero).before) (l.drop (k + 1)) := by rw [hup, hat, decide_eq_true ⟨by omega, by omega, by omega⟩, Bool.true_and]
  refine qd HF rfl (wp_skip (wp_seq (qa ?_)))
  refine fp HF 3 0 [(53, vI k), (52, .slice (some ⟨gA, oA, none⟩) n c), (51, vI u)] fun a HF => ?_
  refine fy HF HM 3 rfl rfl rfl (v := vP gA (oA + k * 12)) (Yl.ix gA oA k 12 rfl rfl rfl) fun a HF => ?_
  refine fp HF 1 4 [(55, vP gA (oA + k * 12 + 11))] fun a HF => ?_
  refine fy HF HM 5 rfl rfl rfl (v := vI ((l.getD k It.zero).before)) (Yl.qh rfl rfl (by kernel_rfl) (fun _ h => (h.old hr).partAt qab (k := k) (j := 11) (x := (l.getD k It.zero)) ((getD_at It.zero (k := k) (by first | omega | (simp; omega)))) rfl)) fun a HF => ?_
  refine fp HF 1 6 [(57, vI (IntKind.i64.wrap (u + ((l.getD k It.zero).before))))] fun a HF => ?_
  replace HF := HF.sp 57 (vI (u + ((l.getD k It.zero).before))) rfl (qf8 ⟨by omega, by omega⟩)
  refine fp HF 1 7 [(8, vI (u + ((l.getD k It.zero).before)))] fun a HF => ?_
  refine qb rfl (qa ?_)
  refine fp HF 3 0 [(60, vI k), (59, .slice (some ⟨gA, oA, none⟩) n c), (58, .slice Ak k ck)] fun a HF => ?_
  refine fy HF HM 3 rfl rfl rfl (v := vP gA (oA + k * 12)) (Yl.ix gA oA k 12 rfl rfl rfl) fun a HF => ?_
  refine fp HF 1 4 [(62, vP gA (oA + k * 12))] fun a HF => ?_
  refine fy HF HM 5 rfl rfl rfl (v := .agg ((l.getD k It.zero).e.cells)) (Yl.zl rfl rfl ⟨(by kernel_rfl), (by kernel_rfl)⟩ rfl (fun _ h => (h.old hr).qwu qab (k := k) (j := 0) (m := 11) (x := (l.getD k It.zero)) ((getD_at It.zero (k := k) (by first | omega | (simp; omega)))) rfl)) fun a HF => ?_
  refine fo HF 6 rfl rfl ?_
  refine zp HF HM (vs := [(0, .agg ((l.getD k It.zero).e.cells))]) (cs := (l.getD k It.zero).e.cells) rfl qip (by decide) rfl (by kernel_rfl) rfl (by decide) ?_
  clear HF HM; intro a w64 g64 HF HM
  refine fo HF 7 rfl rfl ?_
  refine qz HF HM (i := 1) rfl qip rfl rfl rfl (news := (evL (l.getD k It.zero).e)) (HM.rdBlk (i := 0) (n := 1) (size := 11) rfl rfl) (qaf _) (by omega) (by omega) rfl (by decide) ?_
  clear HF HM; intro a w65 A65 c65 HF HM hc65
  rw [show ((evsI (l.take k)).flatMap evL) ++ (evL (l.getD k It.zero).e) = (evsI (l.take (k + 1))).flatMap evL from by rw [qfz (by omega)]] at HM
  refine fp HF 1 8 [(7, .slice A65 (k + 1) c65)] fun a HF => ?_
  refine qb rfl ?_
  replace HF := HF.to [(7, .slice A65 (k + 1) c65), (8, vI (u + ((l.getD k It.zero).before))), (50, .bool false), (22, .bool true), (9, vI k), (17, .bool false), (6, .bool false), (0, vB cpu), (1, .slice (some ⟨gA, oA, none⟩) n c), (2, vI opn)]
  refine qa ?_
  refine fp HF 2 0 [(24, vI (IntKind.i64.wrap ((k : Int) + 1)))] fun a HF => ?_
  replace HF := HF.sp 24 (vI (k + 1 : Nat)) rfl (qo (by omega) (by omega))
  refine fp HF 1 2 [(9, vI (k + 1 : Nat))] fun a HF => ?_
  refine qb rfl ?_
  exact ⟨_, (by omega), k + 1, (u + (l.getD k It.zero).before), A65, c65, by omega, hc65, by omega, by omega, hup2, rfl, HF.sub (by kernel_rfl), HM.picks [1] (by decide) rfl⟩
 have hd22 := of_decide_eq_false hb22
 have hkn : k = n := by omega
 have hut : qa8 cpu opn l = true := by rw [hup, List.drop_of_length_le (by omega)]; rfl
 replace HM := HM.reRow (i := 0) (n' := n) (ys := (evsI l).flatMap evL) rfl (by omega) (by rw [hkn, List.take_of_length_le (by omega)])
 replace HF := HF.as (t := 7) (u := .slice Ak n ck) rfl (by rw [hkn])
 refine qd HF rfl (wp_exit (wp_seq (qa ?_)))
 refine fp HF 1 0 [(67, .slice Ak n ck)] fun a HF => ?_
 refine fo HF 1 rfl rfl ?_
 refine e_cl HF [.slice Ak n ck] rfl rfl ((qfc Ak n ck (evsI l) (qrh hok) _ (HM.rd (i := 0) rfl) (by omega) (by rw [qd6]; exact hln))) ?_
 rintro _ w68 ⟨rfl, hbw⟩
 refine ⟨_, rfl, ?_⟩
 replace HM := HM.call hbw
 clear HF; intro a HF
 refine fp HF 5 2 [(11, vI ((rowR (evsI l)).2))] fun a HF => ?_
 refine qb rfl (wp_seq (qa ?_))
 refine fp HF 3 0 [(6, .bool (((rowR (evsI l)).2 : Int) == (0 : Int)))] fun a HF => ?_
 refine qb rfl (wp_ret ?_)
 exact ret1 rfl HF (.tmp HF rfl) (⟨by rw [qrf (by omega) hut]; congr 2; rw [Bool.eq_iff_iff, beq_iff_eq, decide_eq_true_eq]; omega, HM.below⟩)
theorem qk1 (A : Option Addr) (n c : Nat) (l : List It) (w : World) (hr : Rd w w.heap.size 12 A n (l.flatMap itL)) (hln : l.length = n) (hn : n ≤ 1000000) :
    Calls Tryd.prog 30 #[.slice A n c] w fun r w' => (∃ A c, r = .returned (.slice A n c) ∧ w'.ownsRow w.heap.size 119 12 (.slice A n c) n (l.flatMap itL) ∧ n ≤ c) ∧ Below w.heap.size w w' := by
 refine qg (vs := [.slice A n c]) Tryd.func30 rfl rfl (by kernel_rfl) (σ0 := [(0, .slice A n c)]) rfl ?_
 intro a HF
 have HM := Mem.start w
 refine wp_seq (qa ?_)
 refine fp HF 1 0 [(2, .slice none 0 0)] fun a HF => ?_
 refine qb rfl (wp_seq (qa ?_))
 refine fp HF 1 0 [(3, .slice none 0 0)] fun a HF => ?_
 refine qb rfl ?_
 replace HM := HM.nil 119 12
 refine wp_seq (wp_seq (qa ?_))
 refine fp HF 1 0 [(6, .slice A n c)] fun a HF => ?_
 refine fy HF HM 1 rfl rfl rfl (Yl.len rfl rfl (by kernel_rfl)) fun a HF => ?_
 refine fp HF 1 2 [(8, vI 0)] fun a HF => ?_
 refine qb rfl (wp_block ?_)
 refine qs (fun mS aS wS => ∃ (k : Nat) (Ak : Option Addr) (ck : Nat), (k ≤ n) ∧ (k ≤ ck) ∧ mS = n - k ∧ Fr aS 22 [] [(8, vI k), (7, vI n), (6, .slice A n c), (3, .slice Ak k ck), (2, .slice none 0 0)] ∧ Mem w wS [.row (.slice Ak k ck) k ((l.take k).flatMap itL) 119 12]) (m := n - 0) ⟨0, none, 0, Nat.zero_le _, Nat.le_refl _, rfl, HF.sub (by kernel_rfl), HM.picks [0] (by decide) rfl⟩ ?_
 clear HF HM; rintro mS a w_ ⟨k, Ak, ck, hk, hck, rfl, HF, HM⟩
 refine wp_seq (qa ?_)
 refine fp HF 1 0 [(9, .bool (decide ((k : Int) < (n : Int))))] fun a HF => ?_
 refine qb rfl (wp_seq ?_)
 rcases HF.tf 9 rfl with ⟨hb9, HF⟩ | ⟨hb9, HF⟩
 ·
  have hd9 := of_decide_eq_true hb9
  have hk9 : k < n := by omega
  refine qe HF rfl (wp_skip (wp_seq (wp_block (wp_seq (qa ?_)))))
  obtain ⟨gA, oA, rfl, _⟩ := hr.zm (Nat.lt_of_le_of_lt (Nat.zero_le _) (show k < n from by omega)) (by decide)
  refine fy HF HM 0 rfl rfl rfl (v := vP gA (oA + k * 12)) (Yl.ix gA oA k 12 rfl rfl rfl) fun a HF => ?_
  refine fy HF HM 1 rfl rfl rfl (v := .agg ((l.getD k It.zero).cells)) (Yl.zl rfl rfl si_it rfl (fun _ h => (h.old hr).qad qab ((getD_at It.zero (k := k) (by first | omega | (simp; omega)))))) fun a HF => ?_
  refine fo HF 2 rfl rfl ?_
  refine qq HF HM (cs := #[vI 0, vI 0, vB 0, vB 0, vI 0, vI 0, vI 0, vI 0, vI 0, vQ 0, vI 0, vI 0]) rfl (by kernel_rfl) rfl (by decide) ?_
  clear HF HM; intro a w5 g5 HF HM
  refine fo HF 3 rfl rfl ?_
  refine e_sa HF HM 0 rfl rfl rfl rfl rfl si_it rfl rfl (qks (l.getD k It.zero)) ?_
  clear HM; intro w4_3 HM
  refine qb rfl (qa ?_)
  refine fp HF 2 0 [(13, vP g5 0), (12, .slice Ak k ck)] fun a HF => ?_
  refine fy HF HM 2 rfl rfl rfl (v := .agg #[vI ((l.getD k It.zero).e.seq), vI ((l.getD k It.zero).e.time), vB ((l.getD k It.zero).e.cpu), vB ((l.getD k It.zero).e.kind), vI ((l.getD k It.zero).e.task), vI ((l.getD k It.zero).e.group), vI ((l.getD k It.zero).e.to), vI ((l.getD k It.zero).e.weight), vI ((l.getD k It.zero).e.ticks), vQ ((l.getD k It.zero).e.mask), vI ((l.getD k It.zero).e.got)]) (Yl.zl rfl rfl ⟨(by kernel_rfl), (by kernel_rfl)⟩ rfl (fun _ h => h.sub (i := 0) rfl 0 rfl)) fun a HF => ?_
  refine fp HF 1 3 [(15, vP g5 11)] fun a HF => ?_
  refine fy HF HM 4 rfl rfl rfl (v := vI ((l.getD k It.zero).before)) (Yl.qh rfl rfl (by kernel_rfl) (fun _ h => h.cell (i := 0) rfl (rfl))) fun a HF => ?_
  refine fy HF HM 5 rfl rfl rfl (v := .agg #[vI ((l.getD k It.zero).e.seq), vI ((l.getD k It.zero).e.time), vB ((l.getD k It.zero).e.cpu), vB ((l.getD k It.zero).e.kind), vI ((l.getD k It.zero).e.task), vI ((l.getD k It.zero).e.group), vI ((l.getD k It.zero).e.to), vI ((l.getD k It.zero).e.weight), vI ((l.getD k It.zero).e.ticks), vQ ((l.getD k It.zero).e.mask), vI ((l.getD k It.zero).e.got), vI ((l.getD k It.zero).before)]) (Yl.build (vs := [(0, .agg #[vI ((l.getD k It.zero).e.seq), vI ((l.getD k It.zero).e.time), vB ((l.getD k It.zero).e.cpu), vB ((l.getD k It.zero).e.kind), vI ((l.getD k It.zero).e.task), vI ((l.getD k It.zero).e.group), vI ((l.getD k It.zero).e.to), vI ((l.getD k It.zero).e.weight), vI ((l.getD k It.zero).e.ticks), vQ ((l.getD k It.zero).e.mask), vI ((l.getD k It.zero).e.got)]), (1, vI ((l.getD k It.zero).before))]) rfl (by kernel_rfl) (by kernel_rfl)) fun a HF => ?_
  refine fo HF 6 rfl rfl ?_
  refine zp HF HM (vs := [(0, .agg #[vI ((l.getD k It.zero).e.seq), vI ((l.getD k It.zero).e.time), vB ((l.getD k It.zero).e.cpu), vB ((l.getD k It.zero).e.kind), vI ((l.getD k It.zero).e.task), vI ((l.getD k It.zero).e.group), vI ((l.getD k It.zero).e.to), vI ((l.getD k It.zero).e.weight), vI ((l.getD k It.zero).e.ticks), vQ ((l.getD k It.zero).e.mask), vI ((l.getD k It.zero).e.got), vI ((l.getD k It.zero).before)])]) (cs := #[vI ((l.getD k It.zero).e.seq), vI ((l.getD k It.zero).e.time), vB ((l.getD k It.zero).e.cpu), vB ((l.getD k It.zero).e.kind), vI ((l.getD k It.zero).e.task), vI ((l.getD k It.zero).e.group), vI ((l.getD k It.zero).e.to), vI ((l.getD k It.zero).e.weight), vI ((l.getD k It.zero).e.ticks), vQ ((l.getD k It.zero).e.mask), vI ((l.getD k It.zero).e.got), vI ((l.getD k It.zero).before)]) rfl qrg (by decide) rfl (by kernel_rfl) rfl (by decide) ?_
  clear HF HM; intro a w18 g18 HF HM
  refine fo HF 7 rfl rfl ?_
  refine qz HF HM (i := 2) rfl qrg rfl rfl rfl (news := (itL (l.getD k It.zero))) (HM.rdBlk (i := 0) (n := 1) (size := 12) rfl rfl) (qks _) (by omega) (by omega) rfl (by decide) ?_
  clear HF HM; intro a w19 A19 c19 HF HM hc19
  rw [show ((l.take k).flatMap itL) ++ (itL (l.getD k It.zero)) = (l.take (k + 1)).flatMap itL from by rw [qd8 It.zero (by omega : k < l.length), List.flatMap_append, List.flatMap_singleton]] at HM
  refine fp HF 1 8 [(3, .slice A19 (k + 1) c19)] fun a HF => ?_
  refine qb rfl (qa ?_)
  refine fp HF 1 0 [(20, vI (IntKind.i64.wrap ((k : Int) + 1)))] fun a HF => ?_
  replace HF := HF.sp 20 (vI (k + 1 : Nat)) rfl (qo (by omega) (by omega))
  refine fp HF 1 1 [(8, vI (k + 1 : Nat))] fun a HF => ?_
  refine qb rfl ?_
  exact ⟨_, (by omega), k + 1, A19, c19, by omega, hc19, rfl, HF.sub (by kernel_rfl), HM.picks [2] (by decide) rfl⟩
 have hd9 := of_decide_eq_false hb9
 have hkn : k = n := by omega
 refine qd HF rfl (wp_exit (wp_seq (qa ?_)))
 refine fp HF 2 0 [(2, .slice Ak k ck)] fun a HF => ?_
 refine qb rfl (wp_ret ?_)
 exact ret1 rfl HF (.tmp HF rfl) (⟨⟨Ak, ck, by rw [hkn], by have h := HM.own (i := 0) rfl; rw [hkn, List.take_of_length_le (by omega)] at h; exact h, by omega⟩, HM.below⟩)
theorem qvd : SI Tryd.prog 102 6 := ⟨by kernel_rfl, by kernel_rfl⟩
theorem qoz (W w : World) (gb lp B : Nat) (A : Option Addr) (c : Nat) (l : List Nat) (Inv : List Nat → List Fact → Prop) (Stop : List Fact → Prop) (F0 : List Fact) (hL : LaidX B W) (hB : B ≤ W.heap.size) (hr : Rd W W.heap.size 1 A l.length (l.map B8)) (hc : l.length ≤ c) (hl : ∀ b ∈ l, b < 256) (hn : l.length ≤ 100000000)
    (hy : qiu W lp Inv Stop) (hI0 : Inv l F0) (HM : Mem W w (.blk gb #[.slice A l.length c] 54 :: F0)) :
    Calls Tryd.prog 60 (.func (.yield lp) #[] #[] :: [.pointer (some ⟨gb, 0, none⟩)]).toArray w (qry W Inv Stop) := by
 refine qg (vs := [.func (.yield lp) #[] #[], vP gb 0]) Tryd.func60 rfl rfl (by kernel_rfl) (σ0 := [(0, .func (.yield lp) #[] #[]), (1, vP gb 0)]) rfl ?_
 intro a HF
 refine wp_block ?_
 refine qs (fun mS aS wS => ∃ (rest : List Nat) (X : Option Addr) (cc : Nat) (F : List Fact), (Inv rest F) ∧ (Rd W W.heap.size 1 X rest.length (rest.map B8)) ∧ (rest.length ≤ cc) ∧ (∀ b ∈ rest, b < 256) ∧ (rest.length ≤ l.length) ∧ mS = rest.length ∧ Fr aS 29 [] [(0, .func (.yield lp) #[] #[]), (1, vP gb 0)] ∧ Mem W wS (.blk gb #[.slice X rest.length cc] 54 :: F)) (m := l.length) ⟨l, A, c, F0, hI0, hr, hc, hl, Nat.le_refl _, rfl, HF.sub (by kernel_rfl), HM.picksT 1 [0] (by decide) (by decide) rfl⟩ ?_
 clear HF HM; rintro mS a w_ ⟨rest, X, cc, F, hI, hX, hcc, hrl, hrn, rfl, HF, HM⟩
 refine wp_seq (wp_seq (qa ?_))
 refine fy HF HM 0 rfl rfl rfl (Yl.qh rfl rfl (by kernel_rfl) (fun _ h => h.cell (i := 0) rfl rfl)) fun a HF => ?_
 refine fy HF HM 1 rfl rfl rfl (Yl.len rfl rfl (by kernel_rfl)) fun a HF => ?_
 refine fp HF 1 2 [(8, .bool (decide ((rest.length : Int) > (0 : Int))))] fun a HF => ?_
 refine qb rfl ?_
 rcases HF.tf 8 rfl with ⟨hb8, HF⟩ | ⟨hb8, HF⟩
 ·
  have hd8 := of_decide_eq_true hb8
  have hne : 0 < rest.length := by omega
  obtain ⟨b, m, er, hq⟩ : ∃ b m er, readB rest = (b, m, er) := ⟨_, _, _, rfl⟩
  refine qe HF rfl (wp_skip (wp_block (wp_seq (qa ?_))))
  refine fy HF HM 0 rfl rfl rfl (Yl.qh rfl rfl (by kernel_rfl) (fun _ h => h.cell (i := 0) rfl rfl)) fun a HF => ?_
  refine fo HF 1 rfl rfl ?_
  refine e_cl HF [.slice X rest.length cc] rfl rfl (qjk X rest.length cc rest B _ (hL.mem HM hB) (HM.le hB) (HM.old hX) hcc rfl (by omega) hrl hq) ?_
  rintro _ w11 ⟨⟨A11, c11, rfl, ho, hc11⟩, hbw⟩
  refine ⟨_, rfl, ?_⟩
  replace HM := HM.callRow hbw ho
  clear HF; intro a HF
  refine fp HF 4 2 [(14, vI er), (13, vI m), (12, .agg (b.cells A11 c11))] fun a HF => ?_
  refine fo HF 6 rfl rfl ?_
  refine qq HF HM (cs := #[vB 0, vB 0, vI 0, vI 0, .slice none 0 0]) rfl (by kernel_rfl) rfl (by decide) ?_
  clear HF HM; intro a w3 g3 HF HM
  refine fo HF 7 rfl rfl ?_
  refine e_sa HF HM 0 rfl rfl rfl rfl rfl si_bk rfl rfl (qbv _ _ _) ?_
  clear HM; intro w1_7 HM
  refine fp HF 2 8 [(5, vI er), (4, vI m)] fun a HF => ?_
  refine qb rfl (wp_seq (wp_seq ?_))
  refine qlb (i := 5) ?_
  refine fp HF 1 0 [(15, .func (.yield lp) #[] #[])] fun a HF => ?_
  refine fy HF HM 1 rfl rfl rfl (v := .agg (b.cells A11 c11)) (Yl.zl rfl rfl si_bk rfl (fun _ h => qf (h.blk (i := 0) rfl))) fun a HF => ?_
  refine fp HF 1 2 [(17, vI m)] fun a HF => ?_
  refine fy HF HM 3 rfl rfl rfl (v := .agg #[vB b.kind, vB b.cpu, vI b.lost, vI b.next, .slice A11 b.evs.length c11, vI m]) (Yl.build (vs := [(0, .agg (b.cells A11 c11)), (1, vI m)]) rfl (by kernel_rfl) (by kernel_rfl)) fun a HF => ?_
  refine fp HF 1 4 [(19, vI er)] fun a HF => ?_
  refine qb rfl ?_
  refine qtp HF (i := 5) (vs := [.agg #[vB b.kind, vB b.cpu, vI b.lost, vI b.next, .slice A11 b.evs.length c11, vI m], vI er]) rfl rfl rfl rfl rfl rfl (by decide) (hy rest F _ _ A11 c11 b m er hI hq hne hrl hc11 (Mem.qvl (es := [.blk g3 (b.cells A11 c11) 41, .blk gb #[.slice X rest.length cc] 54]) (HM.picksT (fs' := (.row (.slice A11 b.evs.length c11) b.evs.length (b.evs.flatMap evL) 45 11 :: .blk g3 (b.cells A11 c11) 41 :: .blk gb #[.slice X rest.length cc] 54 :: F)) 3 [1, 0, 2] (by decide) (by decide) rfl))) qhy ?_
  clear HF HM; rintro v w20 a ⟨F2, HM, (⟨he, hv, hI2⟩ | ⟨he, hv, hS2⟩)⟩ HF <;> injection hv with hv <;> subst hv
  ·
   replace HM : Mem W w20 (.blk g3 (b.cells A11 c11) 41 :: .blk gb #[.slice X rest.length cc] 54 :: F2) := Mem.qsg (es := [.blk g3 (b.cells A11 c11) 41, .blk gb #[.slice X rest.length cc] 54]) HM
   have hq0 := hq; rw [he] at hq0; have hof := qjj hrl hq0; have hm13 := hof.least; have hml := hof.len; have hst : (rest.drop m).length < rest.length := by rw [List.length_drop]; omega
   refine fp HF 4 6 [(24, .bool ((er : Int) != (0 : Int))), (22, .bool false)] fun a HF => ?_
   replace HF := HF.sp 24 (.bool false) rfl (by rw [he]; simp)
   refine fp HF 1 10 [(25, .bool false)] fun a HF => ?_
   refine qb rfl (qd HF rfl (wp_skip (qa ?_)))
   refine fy HF HM 0 rfl rfl rfl (Yl.qh rfl rfl (by kernel_rfl) (fun _ h => h.cell (i := 1) rfl rfl)) fun a HF => ?_
   refine fp HF 1 1 [(27, vI m)] fun a HF => ?_
   refine fy HF HM 2 rfl rfl rfl (v := .slice (if cc = m then X else X.map (·.add (m * 1))) (rest.length - m) (cc - m)) (Yl.sliceFrom ei_u8 (j := m) rfl rfl rfl (by omega)) fun a HF => ?_
   replace HF := HF.sp 28 (.slice (if cc = m then X else X.map (·.add (m * 1))) ((rest.drop m).length) (cc - m)) rfl (by rw [List.length_drop])
   refine fo HF 3 rfl rfl ?_
   refine zb HF HM (i := 1) (cs := #[.slice X rest.length cc]) rfl rfl rfl rfl (by kernel_rfl) rfl rfl (by simp) ?_
   clear HM; intro w3_3 HM
   refine qb rfl ?_
   exact ⟨_, hst, (rest.drop m), if cc = m then X else X.map (·.add (m * 1)), cc - m, F2, hI2, Rd.qw0 hX hml hcc, by rw [List.length_drop]; omega, qa7 hrl m, by omega, rfl, HF.sub (by kernel_rfl), HM.picksT 2 [1] (by decide) (by decide) rfl⟩
  ·
   replace HM : Mem W w20 (.blk g3 (b.cells A11 c11) 41 :: .blk gb #[.slice X rest.length cc] 54 :: F2) := Mem.qsg (es := [.blk g3 (b.cells A11 c11) 41, .blk gb #[.slice X rest.length cc] 54]) HM
   refine fp HF 5 6 [(25, .bool true)] fun a HF => ?_
   refine qb rfl (qe HF rfl (wp_ret ?_))
   exact ret0 rfl HF (⟨_, rfl, F2, Mem.qnu [.blk g3 (b.cells A11 c11) 41, .blk gb #[.slice X rest.length cc] 54] HM, .inr hS2⟩)
 have hd8 := of_decide_eq_false hb8
 have hr0 : rest = [] := List.length_eq_zero_iff.1 (by omega)
 refine qd HF rfl (wp_exit ?_)
 subst hr0
 exact norm0 rfl HF (⟨_, rfl, F, Mem.qnu [.blk gb #[.slice X ([] : List Nat).length cc] 54] HM, .inl hI⟩)
theorem qrz (A : Option Addr) (n c : Nat) (w : World) :
    Calls Tryd.prog 42 #[.slice A n c] w fun r w' => ∃ g, r = .returned (.func (.func 60) #[] #[.pointer (some ⟨g, 0, none⟩)]) ∧ Mem w w' [.blk g #[.slice A n c] 54] := by
 refine qg (vs := [.slice A n c]) Tryd.func42 rfl rfl (by kernel_rfl) (σ0 := [(0, .slice A n c)]) rfl ?_
 intro a HF
 have HM := Mem.start w
 refine wp_seq (qa ?_)
 refine fo HF 0 rfl rfl ?_
 refine e_box HF HM (cs := #[.slice A n c]) rfl rfl rfl rfl (by decide) ?_
 clear HF HM; intro a w1 g1 HF HM
 refine fp HF 1 1 [(2, .nilFunc)] fun a HF => ?_
 refine qb rfl (wp_seq (qa ?_))
 refine fy HF HM 0 rfl rfl rfl (v := .func (.func 60) #[] #[vP g1 0]) (Yl.makeFunc (fst := []) (caps := [vP g1 0]) rfl rfl rfl) fun a HF => ?_
 refine fp HF 1 1 [(2, .func (.func 60) #[] #[vP g1 0])] fun a HF => ?_
 refine qb rfl (wp_ret ?_)
 exact ret1 rfl HF (.tmp HF rfl) (⟨_, rfl, HM⟩)
theorem qve (A : Option Addr) (c : Nat) (l : List Nat) (BB : Nat) (w : World) (hL : LaidX BB w) (hB : BB ≤ w.heap.size) (hr : Rd w w.heap.size 1 A l.length (l.map B8)) (hc : l.length ≤ c) (hl : ∀ b ∈ l, b < 256) (hn : l.length ≤ 100000000) :
    Calls Tryd.prog 22 #[.slice A l.length c] w (Is w (.tuple #[.int .i64 ((qgd l).1.length : Int), .int .i64 ((qgd l).2.1 : Int), .int .i64 ((qgd l).2.2 : Int)])) := by
 refine qjq (vs := [.slice A l.length c]) Tryd.func22 rfl rfl (by kernel_rfl) (σ0 := [(0, .slice A l.length c)]) rfl ?_
 intro a HF
 have HM := Mem.start w
 refine wp_seq (qa ?_)
 refine fo HF 0 rfl rfl ?_
 refine qq HF HM (cs := #[vI 0]) rfl (by kernel_rfl) rfl (by decide) ?_
 clear HF HM; intro a w2 g2 HF HM
 refine fo HF 1 rfl rfl ?_
 refine qq HF HM (cs := #[vI 0]) rfl (by kernel_rfl) rfl (by decide) ?_
 clear HF HM; intro a w3 g3 HF HM
 refine fo HF 2 rfl rfl ?_
 refine qq HF HM (cs := #[vI 0]) rfl (by kernel_rfl) rfl (by decide) ?_
 clear HF HM; intro a w4 g4 HF HM
 refine qb rfl (wp_seq (wp_seq (qa ?_)))
 refine fp HF 1 0 [(9, .slice A l.length c)] fun a HF => ?_
 refine fy HF HM 1 rfl rfl rfl (Yl.len rfl rfl (by kernel_rfl)) fun a HF => ?_
 refine fp HF 1 2 [(11, .bool (decide ((l.length : Int) > (524288 : Int))))] fun a HF => ?_
 refine qb rfl ?_
 rcases HF.tf 11 rfl with ⟨hb11, HF⟩ | ⟨hb11, HF⟩
 ·
  have hd11 := of_decide_eq_true hb11
  refine qe HF rfl (wp_seq (qa ?_))
  refine fo HF 0 rfl rfl ?_
  refine zb HF HM (i := 2) (cs := #[vI 0]) rfl rfl rfl rfl (by kernel_rfl) rfl rfl (by simp) ?_
  clear HM; intro w2_0 HM
  refine fo HF 1 rfl rfl ?_
  refine zb HF HM (i := 1) (cs := #[vI 0]) rfl rfl rfl rfl (by kernel_rfl) rfl rfl (by simp) ?_
  clear HM; intro w2_1 HM
  refine fo HF 2 rfl rfl ?_
  refine zb HF HM (i := 0) (cs := #[vI 0]) rfl rfl rfl rfl (by kernel_rfl) rfl rfl (by simp) ?_
  clear HM; intro w2_2 HM
  refine qb rfl (wp_ret ?_)
  refine qwj ?_
  exact ret3 rfl HF (.cell1 (i := 2) HF HM rfl rfl (by kernel_rfl) rfl) (.cell1 (i := 1) HF HM rfl rfl (by kernel_rfl) rfl) (.cell1 (i := 0) HF HM rfl rfl (by kernel_rfl) rfl) (⟨by rw [show qgd l = ([], 0, 3) from if_pos (by omega)]; rfl, HM.below⟩)
 have hd11 := of_decide_eq_false hb11
 refine qd HF rfl (wp_skip (wp_seq (qa ?_)))
 refine fo HF 0 rfl rfl ?_
 refine qq HF HM (cs := #[vI 0]) rfl (by kernel_rfl) rfl (by decide) ?_
 clear HF HM; intro a w5 g5 HF HM
 refine fo HF 1 rfl rfl ?_
 refine qq HF HM (cs := #[vI 0]) rfl (by kernel_rfl) rfl (by decide) ?_
 clear HF HM; intro a w6 g6 HF HM
 refine fo HF 2 rfl rfl ?_
 refine zb HF HM (i := 1) (cs := #[vI 0]) rfl rfl rfl rfl (by kernel_rfl) rfl rfl (by simp) ?_
 clear HM; intro w3_2 HM
 refine fo HF 3 rfl rfl ?_
 refine zb HF HM (i := 0) (cs := #[vI 0]) rfl rfl rfl rfl (by kernel_rfl) rfl rfl (by simp) ?_
 clear HM; intro w3_3 HM
 refine qb rfl (wp_seq (wp_seq (qa ?_)))
 refine fp HF 1 0 [(12, .slice A l.length c)] fun a HF => ?_
 refine fo HF 1 rfl rfl ?_
 refine e_cl HF [.slice A l.length c] rfl rfl (qrz A l.length c _) ?_
 rintro _ w13 ⟨gp, rfl, hm⟩
 refine ⟨_, rfl, ?_⟩
 replace HM := HM.join hm
 clear HF; intro a HF
 refine qb rfl (wp_block ?_)
 refine qwi HF HM (fun F => ∃ (k : Nat) (p : Nat) (f : Nat), (([] : List Nat).length ≤ f) ∧ ((ze l.length l).1.length = k + (ze f ([] : List Nat)).1.length) ∧ ((ze l.length l).2.1 = p + (ze f ([] : List Nat)).2.1) ∧ ((ze l.length l).2.2 = (ze f ([] : List Nat)).2.2) ∧ (k + ([] : List Nat).length ≤ l.length) ∧ (p + ([] : List Nat).length ≤ l.length) ∧ F = [.blk g6 #[vI p] 3, .blk g5 #[vI k] 3, .blk g4 #[vI 0] 36, .blk g3 #[vI 0] 3, .blk g2 #[vI 0] 3]) (fun c F => c = .ret ∧ ∃ (k : Nat) (p : Nat) (e : Nat), ((ze l.length l).1.length = k) ∧ ((ze l.length l).2.1 = p) ∧ ((ze l.length l).2.2 = e) ∧ F = [.blk g6 #[vI p] 3, .blk g5 #[vI k] 3, .blk g4 #[vI e] 36, .blk g3 #[vI p] 3, .blk g2 #[vI k] 3]) rfl (by kernel_rfl) ?_ ?_ ?_
 ·
  clear HF HM; intro lp B rec w1 hrec HM
  have hy : qiu w lp (fun rest F => ∃ (k : Nat) (p : Nat) (f : Nat), (rest.length ≤ f) ∧ ((ze l.length l).1.length = k + (ze f rest).1.length) ∧ ((ze l.length l).2.1 = p + (ze f rest).2.1) ∧ ((ze l.length l).2.2 = (ze f rest).2.2) ∧ (k + rest.length ≤ l.length) ∧ (p + rest.length ≤ l.length) ∧ F = (.obj lp (.loop (rec .ready none)) :: .obj B (.deferred (some [])) :: [.blk g6 #[vI p] 3, .blk g5 #[vI k] 3, .blk g4 #[vI 0] 36, .blk g3 #[vI 0] 3, .blk g2 #[vI 0] 3])) (fun F => ∃ (k : Nat) (p : Nat) (e : Nat), ((ze l.length l).1.length = k) ∧ ((ze l.length l).2.1 = p) ∧ ((ze l.length l).2.2 = e) ∧ F = (.obj lp (.loop (rec .done (some .ret))) :: .obj B (.deferred (some [])) :: [.blk g6 #[vI p] 3, .blk g5 #[vI k] 3, .blk g4 #[vI e] 36, .blk g3 #[vI p] 3, .blk g2 #[vI k] 3])) := by
   rintro rest F fr w3 A9 c9 b m er ⟨k, p, f, hf, hk, hp, he, hkn, hpn, rfl⟩ hq hne hrl hcb HM
   replace HM := HM.picksT (fs' := (.obj lp (.loop (rec .ready none)) :: .row (.slice A9 b.evs.length c9) b.evs.length (b.evs.flatMap evL) 45 11 :: .obj B (.deferred (some [])) :: .blk g6 #[vI p] 3 :: .blk g5 #[vI k] 3 :: .blk g4 #[vI 0] 36 :: .blk g3 #[vI 0] 3 :: .blk g2 #[vI 0] 3 :: fr)) 8 [1, 0, 2, 3, 4, 5, 6, 7] (by decide) (by decide) rfl
   refine qk9 (v1 := .agg #[.int .u8 (b.kind : Int), .int .u8 (b.cpu : Int), .int .i64 b.lost, .int .i64 b.next, .slice A9 b.evs.length c9, .int .i64 (m : Int)]) (v2 := vI er) hrec HM (by decide) (by decide) fun a HF => ?_
   refine wpIn_seq ?_
   refine qbs ?_
   refine fo HF 0 rfl rfl ?_
   refine qq HF HM (cs := #[vB 0, vB 0, vI 0, vI 0, .slice none 0 0, vI 0]) rfl (by kernel_rfl) rfl (by decide) ?_
   clear HF HM; intro a w7 g7 HF HM
   refine fo HF 1 rfl rfl ?_
   refine e_sa HF HM 0 rfl rfl rfl rfl rfl qvd rfl rfl (by simp [Value.oneCell']) ?_
   clear HM; intro w5_1 HM
   refine qb rfl ?_
   refine qbs ?_
   refine fp HF 1 0 [(8, vI er)] fun a HF => ?_
   refine qb rfl ?_
   refine ⟨(.blk g7 #[.int .u8 (b.kind : Int), .int .u8 (b.cpu : Int), .int .i64 b.lost, .int .i64 b.next, .slice A9 b.evs.length c9, .int .i64 (m : Int)] 102 :: .row (.slice A9 b.evs.length c9) b.evs.length (b.evs.flatMap evL) 45 11 :: .obj B (.deferred (some [])) :: .blk g6 #[vI p] 3 :: .blk g5 #[vI k] 3 :: .blk g4 #[vI 0] 36 :: .blk g3 #[vI 0] 3 :: .blk g2 #[vI 0] 3 :: fr), HM.picksT (fs' := (.obj lp (.loop (rec .ready none)) :: .blk g7 #[.int .u8 (b.kind : Int), .int .u8 (b.cpu : Int), .int .i64 b.lost, .int .i64 b.next, .slice A9 b.evs.length c9, .int .i64 (m : Int)] 102 :: .row (.slice A9 b.evs.length c9) b.evs.length (b.evs.flatMap evL) 45 11 :: .obj B (.deferred (some [])) :: .blk g6 #[vI p] 3 :: .blk g5 #[vI k] 3 :: .blk g4 #[vI 0] 36 :: .blk g3 #[vI 0] 3 :: .blk g2 #[vI 0] 3 :: fr)) 9 [1, 0, 2, 3, 4, 5, 6, 7, 8] (by decide) (by decide) rfl, fun w4 HM => ?_⟩
   refine wpIn_block ?_
   refine wpIn_seq ?_
   refine wpIn_seq ?_
   refine qbs ?_
   refine fp HF 2 0 [(17, .bool ((er : Int) != (0 : Int)))] fun a HF => ?_
   refine qb rfl ?_
   rcases HF.tf 17 rfl with ⟨hb17, HF⟩ | ⟨hb17, HF⟩
   ·
    have hd17 := bne_iff_ne.1 hb17
    have hg := qml (f := f) (by omega) hne hq (by omega)
    rw [hg] at hk hp he
    simp only [List.length_nil, Nat.add_zero] at hk hp
    refine qmi HF rfl ?_
    refine wpIn_seq ?_
    refine qrw HM (.obj lp (.loop (rec .busy none)) :: .blk g7 #[.int .u8 (b.kind : Int), .int .u8 (b.cpu : Int), .int .i64 b.lost, .int .i64 b.next, .slice A9 b.evs.length c9, .int .i64 (m : Int)] 102 :: .row (.slice A9 b.evs.length c9) b.evs.length (b.evs.flatMap evL) 45 11 :: .obj B (.deferred (some [])) :: .blk g6 #[vI p] 3 :: .blk g5 #[vI k] 3 :: .blk g4 #[vI 0] 36 :: .blk g3 #[vI 0] 3 :: fr) 9 [0, 1, 2, 3, 4, 5, 6, 7] [4, 5] fun HM HS => ?_
    refine ap HF (fun _ => HS) [2] #[false, false, true, false, false, false] [(20, vI er)] fun a HF => ?_
    refine ay HF HS 0 rfl rfl rfl (Yl.qh rfl rfl (by kernel_rfl) (fun _ h => h.cell (i := 5) rfl rfl)) fun a HF => ?_
    refine ay HF HS 1 rfl rfl rfl (Yl.qh rfl rfl (by kernel_rfl) (fun _ h => h.cell (i := 4) rfl rfl)) fun a HF => ?_
    refine qj [3] (by kernel_rfl) rfl ?_
    refine all_cons ?_ all_nil
    refine qn HF (i := 3) rfl rfl ?_
    refine zb HF HM (i := 8) (cs := #[vI 0]) rfl rfl rfl rfl (by kernel_rfl) rfl rfl (by simp) ?_
    clear HM; intro w8_3 HM
    refine keepS (HM.picksT 9 [0, 1, 2, 3, 4, 5, 6, 7] (by decide) (by decide) rfl) (fun HS => ?_)
    refine qj [4] (by kernel_rfl) rfl ?_
    refine all_cons ?_ all_nil
    refine qn HF (i := 4) rfl rfl ?_
    refine zb HF HM (i := 7) (cs := #[vI 0]) rfl rfl rfl rfl (by kernel_rfl) rfl rfl (by simp) ?_
    clear HM; intro w8_4 HM
    refine noS (by kernel_rfl) ?_
    refine qj [5] (by kernel_rfl) rfl ?_
    refine all_cons ?_ all_nil
    refine qn HF (i := 5) rfl rfl ?_
    refine zb HF HM (i := 6) (cs := #[vI 0]) rfl rfl rfl rfl (by kernel_rfl) rfl rfl (by simp) ?_
    clear HM; intro w8_5 HM
    refine noS (by kernel_rfl) ?_
    refine ql (by kernel_rfl) ?_
    refine wpIn_ret ?_
    refine ⟨(.obj B (.deferred (some [])) :: .blk g6 #[vI p] 3 :: .blk g5 #[vI k] 3 :: .blk g4 #[vI er] 36 :: .blk g3 #[vI p] 3 :: .blk g2 #[vI k] 3 :: fr), HM.picksT (fs' := (.obj lp (.loop (rec .busy none)) :: .obj B (.deferred (some [])) :: .blk g6 #[vI p] 3 :: .blk g5 #[vI k] 3 :: .blk g4 #[vI er] 36 :: .blk g3 #[vI p] 3 :: .blk g2 #[vI k] 3 :: fr)) 9 [0, 3, 4, 5, 6, 7, 8] (by decide) (by decide) rfl, fun w5 HM => ?_⟩
    exact ⟨(.obj lp (.loop (rec .done (some .ret))) :: .obj B (.deferred (some [])) :: .blk g6 #[vI p] 3 :: .blk g5 #[vI k] 3 :: .blk g4 #[vI er] 36 :: .blk g3 #[vI p] 3 :: .blk g2 #[vI k] 3 :: []), HM, .inr ⟨(by omega), rfl, k, p, er, hk, hp, he, rfl⟩⟩
   have hd17 := bne_eq_false_iff_eq.1 hb17
   have he0 : er = 0 := by omega
   have hq0 := hq
   rw [he0] at hq0
   have hg := qlc (f := f) (by omega) hne hq0
   have hof := qjj hrl hq0
   have hm13 := hof.least
   have hml := hof.len
   rw [hg] at hk hp he
   dsimp only at hk hp he
   rw [List.length_cons] at hk
   refine qk8 HF rfl ?_
   refine wpIn_skip ?_
   refine wpIn_seq ?_
   refine qbs ?_
   refine fy HF HM 0 rfl rfl rfl (Yl.qh rfl rfl (by kernel_rfl) (fun _ h => h.cell (i := 5) rfl rfl)) fun a HF => ?_
   refine fp HF 1 1 [(22, vI (IntKind.i64.wrap ((k : Int) + 1)))] fun a HF => ?_
   replace HF := HF.sp 22 (vI (k + 1 : Nat)) rfl (qo (by omega) (by omega))
   refine fo HF 2 rfl rfl ?_
   refine zb HF HM (i := 5) (cs := #[vI k]) rfl rfl rfl rfl (by kernel_rfl) rfl rfl (by simp) ?_
   clear HM; intro w9_2 HM
   refine qb rfl ?_
   refine qbs ?_
   refine fy HF HM 0 rfl rfl rfl (Yl.qh rfl rfl (by kernel_rfl) (fun _ h => h.cell (i := 4) rfl rfl)) fun a HF => ?_
   refine fp HF 1 1 [(24, vP g7 5)] fun a HF => ?_
   refine fy HF HM 2 rfl rfl rfl (v := vI m) (Yl.qh rfl rfl (by kernel_rfl) (fun _ h => h.cell (i := 1) rfl (rfl))) fun a HF => ?_
   refine fp HF 1 3 [(26, vI (IntKind.i64.wrap ((p : Int) + (m : Int))))] fun a HF => ?_
   replace HF := HF.sp 26 (vI (p + m : Nat)) rfl (qo (by omega) (by omega))
   refine fo HF 4 rfl rfl ?_
   refine zb HF HM (i := 4) (cs := #[vI p]) rfl rfl rfl rfl (by kernel_rfl) rfl rfl (by simp) ?_
   clear HM; intro w10_4 HM
   refine qb rfl ?_
   refine ⟨(.obj B (.deferred (some [])) :: .blk g6 #[vI (p + m : Nat)] 3 :: .blk g5 #[vI (k + 1 : Nat)] 3 :: .blk g4 #[vI 0] 36 :: .blk g3 #[vI 0] 3 :: .blk g2 #[vI 0] 3 :: fr), HM.picksT (fs' := (.obj lp (.loop (rec .busy none)) :: .obj B (.deferred (some [])) :: .blk g6 #[vI (p + m : Nat)] 3 :: .blk g5 #[vI (k + 1 : Nat)] 3 :: .blk g4 #[vI 0] 36 :: .blk g3 #[vI 0] 3 :: .blk g2 #[vI 0] 3 :: fr)) 9 [0, 3, 4, 5, 6, 7, 8] (by decide) (by decide) rfl, fun w5 HM => ?_⟩
   exact ⟨(.obj lp (.loop (rec .ready none)) :: .obj B (.deferred (some [])) :: .blk g6 #[vI (p + m : Nat)] 3 :: .blk g5 #[vI (k + 1 : Nat)] 3 :: .blk g4 #[vI 0] 36 :: .blk g3 #[vI 0] 3 :: .blk g2 #[vI 0] 3 :: []), HM, .inl ⟨(by omega), rfl, k + 1, p + m, (f - 1), by rw [List.length_drop]; omega, by omega, by omega, he, by rw [List.length_drop]; omega, by rw [List.length_drop]; omega, rfl⟩⟩
  refine (qoz w w1 gp lp BB A c l _ _ _ hL hB hr hc hl (by omega) hy ⟨0, 0, l.length, Nat.le_refl _, (Nat.zero_add _).symm, (Nat.zero_add _).symm, rfl, by omega, by omega, rfl⟩ (HM.picks [2, 0, 1, 3, 4, 5, 6, 7] (by decide) rfl)).mono ?_
  rintro r w2 ⟨v, rfl, F2, HM2, (⟨k, p, f, hf, hk, hp, he, hkn, hpn, rfl⟩ | ⟨k, p, e, hk, hp, he, rfl⟩)⟩
  ·exact ⟨v, rfl, .inl ⟨_, ⟨k, p, f, hf, hk, hp, he, hkn, hpn, rfl⟩, HM2⟩⟩
  ·exact ⟨v, rfl, .inr ⟨.ret, _, ⟨rfl, k, p, e, hk, hp, he, rfl⟩, HM2⟩⟩
 ·
  clear HF HM; rintro B a w6 _ ⟨k, p, f, hf, hk, hp, he, hkn, hpn, rfl⟩ HF HM
  have hz := qmk (f := f) (l := []) rfl
  rw [hz] at hk hp he
  simp only [List.length_nil, Nat.add_zero] at hk hp
  refine wp_seq ?_
  refine qac HM [.obj B (.deferred (some [])), .blk g6 #[vI p] 3, .blk g5 #[vI k] 3, .blk g4 #[vI 0] 36, .blk g3 #[vI 0] 3] [0, 1, 2, 3, 4] [3, 4] fun HM HS => ?_
  refine ay HF HS 0 rfl rfl rfl (Yl.qh rfl rfl (by kernel_rfl) (fun _ h => h.cell (i := 2) rfl rfl)) fun a HF => ?_
  refine ay HF HS 1 rfl rfl rfl (Yl.qh rfl rfl (by kernel_rfl) (fun _ h => h.cell (i := 1) rfl rfl)) fun a HF => ?_
  refine qj [2] (by kernel_rfl) rfl ?_
  refine all_cons ?_ all_nil
  refine qn HF (i := 2) rfl rfl ?_
  refine zb HF HM (i := 5) (cs := #[vI 0]) rfl rfl rfl rfl (by kernel_rfl) rfl rfl (by simp) ?_
  clear HM; intro w11_2 HM
  refine keepS (HM.picks [0, 1, 2, 3, 4] (by decide) rfl) (fun HS => ?_)
  refine qj [3] (by kernel_rfl) rfl ?_
  refine all_cons ?_ all_nil
  refine qn HF (i := 3) rfl rfl ?_
  refine zb HF HM (i := 4) (cs := #[vI 0]) rfl rfl rfl rfl (by kernel_rfl) rfl rfl (by simp) ?_
  clear HM; intro w11_3 HM
  refine noS (by kernel_rfl) ?_
  refine qj [4] (by kernel_rfl) rfl ?_
  refine all_cons ?_ all_nil
  refine qn HF (i := 4) rfl rfl ?_
  refine zb HF HM (i := 3) (cs := #[vI 0]) rfl rfl rfl rfl (by kernel_rfl) rfl rfl (by simp) ?_
  clear HM; intro w11_4 HM
  refine noS (by kernel_rfl) ?_
  refine ql (by kernel_rfl) ?_
  refine wp_ret ?_
  refine qrx HF HM (i := 0) rfl fun a w7 HF HM => ?_
  exact ret3 rfl HF (.cell1 (i := 5) HF HM rfl rfl (by kernel_rfl) rfl) (.cell1 (i := 4) HF HM rfl rfl (by kernel_rfl) rfl) (.cell1 (i := 3) HF HM rfl rfl (by kernel_rfl) rfl) (⟨by rw [show qgd l = ze l.length l from if_neg (by omega), hk, hp, he]; rfl, HM.below⟩)
 ·
  clear HF HM; rintro _ B a w6 _ ⟨rfl, k, p, e, hk, hp, he, rfl⟩ HF HM
  refine wp_ret ?_
  refine qrx HF HM (i := 0) rfl fun a w7 HF HM => ?_
  exact ret3 rfl HF (.cell1 (i := 5) HF HM rfl rfl (by kernel_rfl) rfl) (.cell1 (i := 4) HF HM rfl rfl (by kernel_rfl) rfl) (.cell1 (i := 3) HF HM rfl rfl (by kernel_rfl) rfl) (⟨by rw [show qgd l = ze l.length l from if_neg (by omega), hk, hp, he]; rfl, HM.below⟩)
def outsL (bs : List Bk) : List Nat := bs.flatMap Bk.out
def errL : List Bk → Nat
 | [] => 0
 | b :: t => if b.err = 0 then errL t else b.err
def qag (bs : List Bk) : List Nat × Nat := if errL bs ≠ 0 then ([], errL bs) else if 524288 < (outsL bs).length then ([], 3) else (outsL bs, 0)
theorem qo0 {bs : List Bk} (h : errL bs ≠ 0) : qag bs = ([], errL bs) := by unfold qag; rw [if_pos h]
theorem qmp {bs : List Bk} (h : errL bs = 0) (h2 : 524288 < (outsL bs).length) : qag bs = ([], 3) := by unfold qag; rw [if_neg (by omega), if_pos h2]
theorem qr3 {bs : List Bk} (h : errL bs = 0) (h2 : ¬ 524288 < (outsL bs).length) : qag bs = (outsL bs, 0) := by unfold qag; rw [if_neg (by omega), if_neg h2]
theorem qo1 (bs : List Bk) : (qag bs).1.length ≤ 524288 := by
 unfold qag
 split
 ·exact Nat.zero_le _
 ·split
  ·exact Nat.zero_le _
  ·dsimp only; omega
theorem qwk {q : List Hb} {k : Nat} (h : k < q.length) : errL ((q.drop k).map Hb.b) = if (q.getD k Hb.zero).b.err = 0 then errL ((q.drop (k + 1)).map Hb.b) else (q.getD k Hb.zero).b.err := by
 rw [qeg Hb.zero h, List.map_cons, errL]
theorem qug {q : List Hb} {k : Nat} (h : k < q.length) : outsL ((q.take (k + 1)).map Hb.b) = outsL ((q.take k).map Hb.b) ++ (q.getD k Hb.zero).b.out := by
 unfold outsL
 rw [qd8 Hb.zero h, List.map_append, List.flatMap_append]
 simp
theorem qts (bs : List Bk) : (outsL bs).length ≤ 4096 * bs.length := by
 unfold outsL
 induction bs with
 | nil => exact Nat.zero_le _
 | cons b t ih =>
  rw [List.flatMap_cons, List.length_append, List.length_cons]
  have := qqv b
  omega
theorem qr4 {q : List Hb} (k : Nat) : (outsL ((q.take k).map Hb.b)).length ≤ 4096 * q.length := by
 have h := qts ((q.take k).map Hb.b)
 rw [List.length_map, List.length_take] at h
 have : min k q.length ≤ q.length := Nat.min_le_right _ _
 omega
def qbb (out : List Nat) (bs : List Bk) : List Nat × Nat := if (qag bs).2 ≠ 0 then (out, (qag bs).2) else if 524288 < out.length + (qag bs).1.length then (out, 3) else (out ++ (qag bs).1, 0)
theorem qo2 {out : List Nat} {bs : List Bk} (h : (qag bs).2 ≠ 0) : qbb out bs = (out, (qag bs).2) := by unfold qbb; rw [if_pos h]
theorem qmq {out : List Nat} {bs : List Bk} (h : (qag bs).2 = 0) (h2 : 524288 < out.length + (qag bs).1.length) : qbb out bs = (out, 3) := by unfold qbb; rw [if_neg (by omega), if_pos h2]
theorem qr5 {out : List Nat} {bs : List Bk} (h : (qag bs).2 = 0) (h2 : ¬ 524288 < out.length + (qag bs).1.length) : qbb out bs = (out ++ (qag bs).1, 0) := by unfold qbb; rw [if_neg (by omega), if_neg h2]
def endB (next : Int) : Bk := ⟨2, 0, 0, next, []⟩
theorem qvf {next : Int} (h : I64 next) : (endB next).Ok := ⟨by show 2 < 256; decide, by show 0 < 256; decide, by show I64 0; unfold I64; decide, h, by intro e he; cases he⟩
def nextR (l : List Nat) (p : Nat) : Bk × Nat × Nat := if p = l.length then (Bk.zero, 0, 6) else readB (l.drop p)
section
variable {W w : World} {fs : List Fact} {t bt : TypeId}
theorem Mem.reBlk (h : Mem W w fs) {i g : Nat} {cs ds : Array Value} {t : TypeId} (hi : fs[i]? = some (.blk g cs t)) (he : cs = ds) : Mem W w (fs.set i (.blk g ds t)) := by
 subst he
 obtain ⟨hl, h2⟩ := List.getElem?_eq_some_iff.1 hi
 rw [← h2, List.set_getElem_self]
 exact h
theorem qix {w w' : World} {p : List Nat × Nat} {er : Nat} {n : Int} (hb : Below w.heap.size w w') (he : p = ([], er)) (hn : n = er) : qar w p.2 p.1 (.returned (.tuple #[.slice none 0 0, .int .i64 n])) w' := by
 subst he; subst hn
 exact ⟨⟨none, 0, rfl, World.ownsRow_nil _ _ _ _, Nat.le_refl _⟩, hb⟩
end
section
variable {W w w' : World} {fs gs : List Fact} {f g1 g2 : Fact}
end
def WrIs (W : World) (tw : TypeId) (g : Nat) (lim : Int) (out : List Nat) (fs : List Fact) (v : Value) (r : Ending) (w' : World) : Prop :=
 r = .returned v ∧ ∃ A c, out.length ≤ c ∧ Mem W w' (.blk g #[.int .i64 lim, .slice A out.length c] tw :: .row (.slice A out.length c) out.length (out.map B8) 5 1 :: fs)
theorem WrIs.as {W w' : World} {tw : TypeId} {g : Nat} {lim : Int} {out out' : List Nat} {fs : List Fact} {v v' : Value} {r : Ending} (h : WrIs W tw g lim out fs v r w') (h1 : out = out') (h2 : v = v') : WrIs W tw g lim out' fs v' r w' := by subst h1; subst h2; exact h
theorem qmr {out R : List Nat} {bs : List Bk} {er : Nat} (h : qag bs = (R, er)) (he : er ≠ 0) : qbb out bs = (out, er) := by have h1 := qo2 (out := out) (bs := bs) (by rw [h]; exact he); rw [h] at h1; exact h1
theorem qlf {out R : List Nat} {bs : List Bk} {er : Nat} (h : qag bs = (R, er)) (he : er = 0) (h2 : 524288 < out.length + R.length) : qbb out bs = (out, 3) := qmq (by rw [h]; exact he) (by rw [h]; exact h2)
theorem qo3 {out R : List Nat} {bs : List Bk} {er : Nat} (h : qag bs = (R, er)) (he : er = 0) (h2 : ¬ 524288 < out.length + R.length) : qbb out bs = (out ++ R, 0) := by have h1 := qr5 (out := out) (bs := bs) (by rw [h]; exact he) (by rw [h]; exact h2); rw [h] at h1; exact h1
theorem qjr {W w' : World} {tw : TypeId} {g c : Nat} {lim n : Int} {A : Option Addr} {out : List Nat} {er : Nat} {fs : List Fact} {p : List Nat × Nat} (h : p = (out, er)) (hn : n = er) (hc : out.length ≤ c) (hm : Mem W w' (.blk g #[.int .i64 lim, .slice A out.length c] tw :: .row (.slice A out.length c) out.length (out.map B8) 5 1 :: fs)) : WrIs W tw g lim p.1 fs (.int .i64 (p.2 : Int)) (.returned (.int .i64 n)) w' := by
 subst h; subst hn
 exact ⟨rfl, A, c, hc, hm⟩
section
variable {W w w' : World} {fs gs : List Fact} {f1 f2 : Fact}
end
theorem qo4 {l : List Nat} {b : Bk} {m er : Nat} (hl : ∀ x ∈ l, x < 256) (h : readB l = (b, m, er)) : m ≤ l.length := by
 by_cases he : er = 0
 ·subst he; exact (qjj hl h).len
 ·have := (qq2 h he).2; omega
theorem qr6 {l : List Nat} {p : Nat} {b : Bk} {m er : Nat} (hl : ∀ x ∈ l, x < 256) (hp : p ≤ l.length) (h : nextR l p = (b, m, er)) : p + m ≤ l.length := by
 unfold nextR at h
 split at h
 ·injection h with _ h; injection h with h _; omega
 ·have := qo4 (qa7 hl p) h
  rw [List.length_drop] at this
  omega
def quh (W : World) (tr : TypeId) (g p : Nat) (l : List Nat) (A : Option Addr) (c : Nat) (fs : List Fact) (q : Bk × Nat × Nat) (r : Ending) (w' : World) : Prop :=
 ∃ A' c', r = .returned (.tuple #[.agg (q.1.cells A' c'), .int .i64 (q.2.2 : Int)]) ∧ q.1.evs.length ≤ c' ∧ Mem W w' (.row (.slice A' q.1.evs.length c') q.1.evs.length (q.1.evs.flatMap evL) 45 11 :: .blk g #[.bool true, .int .i64 ((p + q.2.1 : Nat) : Int), .slice A l.length c] tr :: .row (.slice A l.length c) l.length (l.map B8) 5 1 :: fs)
theorem qlg {W w' : World} {tr : TypeId} {g p c c' m er : Nat} {l : List Nat} {A A' : Option Addr} {fs : List Fact} {q : Bk × Nat × Nat} {b : Bk} (h : q = (b, m, er)) {n : Int} (hn : n = er) (hc : b.evs.length ≤ c') (hm : Mem W w' (.row (.slice A' b.evs.length c') b.evs.length (b.evs.flatMap evL) 45 11 :: .blk g #[.bool true, .int .i64 ((p + m : Nat) : Int), .slice A l.length c] tr :: .row (.slice A l.length c) l.length (l.map B8) 5 1 :: fs)) :
  quh W tr g p l A c fs q (.returned (.tuple #[.agg (b.cells A' c'), .int .i64 n])) w' := by
 subst h; subst hn
 exact ⟨A', c', rfl, hc, hm⟩
end Go.Proofs.YtfeheccoijnbaaaDoor
