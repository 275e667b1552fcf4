/- Texts laid together: Blk5W, BlkV, BlkF, Aw10W, BlkW, DoorSb, FillW, BlkG, BlkX, Made10W, BlkY. -/
import Derived.Test.YtjpielapplglmaaDoorBlkR
import Derived.Test.YtjpielapplglmaaDoorMade7
import Derived.Test.YtjpielapplglmaaDoorDoor5
import Derived.Test.YtjpielapplglmaaDoorCardWrongBZ2
/- Blocks: Read, Same: the walks. -/
set_option linter.all false
namespace Go.Proofs.YtjpielapplglmaaDoor
open Go.RowKit
set_option maxRecDepth 100000 in
set_option maxHeartbeats 4000000 in
theorem bread_any (A : Option Addr) (n cp : Nat) (l : List Nat) (B : Nat) (w : World) (hL : LaidX B w) (hB : B ≤ w.heap.size) (hr : Rd w w.heap.size 1 A n (l.map B8)) (hc : n ≤ cp) (hln : l.length = n) (hn : n ≤ 9223372036854775807) (hl : ∀ b ∈ l, b < 256) :
    Calls Tryd.prog 16 #[.slice A n cp] w (BReadIs 55 w (readB l)) := by
  refine calls_enter (vs := [.slice A n cp]) Tryd.func16 rfl rfl (by kernel_rfl) (σ0 := [(0, .slice A n cp)]) rfl ?_
  intro a HF
  have HM := Mem.start w
  refine wp_seq ?_
  refine from_start ?_
  refine from_op HF (i := 0) rfl rfl ?_
  refine e_alloc HF HM (cs := #[.int .u8 0, .int .u8 0, .int .i64 0, .int .i64 0, .slice none 0 0]) rfl (by kernel_rfl) rfl (by decide) ?_
  clear HF HM; intro a w2 g2 HF HM
  refine from_pures HF 2 1 (j := 3) [(4, .int .i64 0), (3, .int .i64 0)] (by kernel_rfl) rfl ?_; clear HF; intro a HF
  refine from_done rfl ?_
  refine wp_seq ?_
  refine from_start ?_
  refine from_pures HF 1 0 (j := 1) [(10, .slice A n cp)] (by kernel_rfl) rfl ?_; clear HF; intro a HF
  refine from_op HF (i := 1) rfl rfl ?_
  refine e_call HF (vs := [.slice A n cp]) rfl (by kernel_rfl) (by kernel_rfl) rfl (by decide) (length_any A n cp l _ (HM.old hr) hln hn hl) ?_
  rintro _ w11 ⟨rfl, hbw⟩
  refine ⟨_, rfl, ?_⟩
  replace HM := HM.call hbw
  clear HF; intro a HF
  refine from_pures HF 5 2 (j := 7) [(6, .int .i64 ((lenR l).2 : Int)), (5, .int .i64 ((lenR l).1 : Int)), (13, .int .i64 ((lenR l).2 : Int)), (12, .int .i64 ((lenR l).1 : Int)), (9, .tuple #[.int .i64 ((lenR l).1 : Int), .int .i64 ((lenR l).2 : Int)])] (by kernel_rfl) rfl ?_; clear HF; intro a HF
  refine from_done rfl ?_
  replace HF := HF.sub (σ' := [(6, .int .i64 ((lenR l).2 : Int)), (5, .int .i64 ((lenR l).1 : Int)), (4, .int .i64 0), (3, .int .i64 0), (2, .pointer (some ⟨g2, 0, none⟩)), (0, .slice A n cp)]) (by kernel_rfl)
  refine wp_seq ?_
  refine wp_seq ?_
  refine from_start ?_
  refine from_pures HF 2 0 (j := 2) [(15, .bool ((((lenR l).2 : Int) : Int) != (0 : Int))), (14, .int .i64 ((lenR l).2 : Int))] (by kernel_rfl) rfl ?_; clear HF; intro a HF
  refine from_done rfl ?_
  replace HF := HF.sub (σ' := [(15, .bool ((((lenR l).2 : Int) : Int) != (0 : Int))), (6, .int .i64 ((lenR l).2 : Int)), (5, .int .i64 ((lenR l).1 : Int)), (4, .int .i64 0), (3, .int .i64 0), (2, .pointer (some ⟨g2, 0, none⟩)), (0, .slice A n cp)]) (by kernel_rfl)
  rcases Bool.eq_false_or_eq_true ((((lenR l).2 : Int) : Int) != (0 : Int)) with hb15 | hb15
  · have HF := HF.as (t := 15) (u := .bool true) rfl (by rw [hb15])
    have hd15 := bne_iff_ne.1 hb15
    refine cond_true HF rfl ?_
    refine wp_seq ?_
    refine from_start ?_
    refine from_yl (S := fun wS => Mem w wS _) HF HM (i := 0) rfl rfl (d := 16) rfl (by decide) (v := .agg #[.int .u8 0, .int .u8 0, .int .i64 0, .int .i64 0, .slice none 0 0]) (Yl.build (vs := []) rfl (by kernel_rfl) (by kernel_rfl)) ?_; clear HF; intro a HF
    refine from_pures HF 1 1 (j := 2) [(17, .int .i64 ((lenR l).2 : Int))] (by kernel_rfl) rfl ?_; clear HF; intro a HF
    refine from_op HF (i := 2) rfl rfl ?_
    refine e_storeAll HF HM (i := 0) (cs := #[.int .u8 0, .int .u8 0, .int .i64 0, .int .i64 0, .slice none 0 0]) (ds := #[.int .u8 0, .int .u8 0, .int .i64 0, .int .i64 0, .slice none 0 0]) rfl rfl rfl rfl si_bk rfl rfl (by simp [Value.oneCell']) rfl ?_
    clear HM; intro w3_2 HM
    refine from_pures HF 2 3 (j := 5) [(4, .int .i64 ((lenR l).2 : Int)), (3, .int .i64 0)] (by kernel_rfl) rfl ?_; clear HF; intro a HF
    refine from_done rfl ?_
    replace HF := HF.sub (σ' := [(4, .int .i64 ((lenR l).2 : Int)), (3, .int .i64 0), (15, .bool true), (6, .int .i64 ((lenR l).2 : Int)), (5, .int .i64 ((lenR l).1 : Int)), (2, .pointer (some ⟨g2, 0, none⟩)), (0, .slice A n cp)]) (by kernel_rfl)
    refine wp_ret ?_
    exact ret3 rfl HF (.cellS (i := 0) HF HM rfl rfl si_bk rfl) (.tmp HF rfl) (.tmp HF rfl) (breadIs_bad (readB_len (by omega)) HM.below)
  · have HF := HF.as (t := 15) (u := .bool false) rfl (by rw [hb15])
    have hd15 := bne_eq_false_iff_eq.1 hb15
    have hl0 : (lenR l).2 = 0 := by omega
    obtain ⟨v1, v2, v3, v4⟩ := lenR_ok hl0
    obtain ⟨Lb, hLb⟩ : ∃ x, x = l.take (lenR l).1 := ⟨_, rfl⟩
    have hrL : Rd w w.heap.size 1 A (lenR l).1 (Lb.map B8) := by rw [hLb]; exact hr.toB8 (by omega)
    have hlL : ∀ b ∈ Lb, b < 256 := by rw [hLb]; exact take_lt hl _
    have hnL : Lb.length = (lenR l).1 := by rw [hLb, List.length_take]; omega
    refine cond_false HF rfl ?_
    refine wp_skip ?_
    refine wp_seq ?_
    refine from_start ?_
    refine from_pures HF 2 0 (j := 2) [(19, .int .i64 ((lenR l).1 : Int)), (18, .slice A n cp)] (by kernel_rfl) rfl ?_; clear HF; intro a HF
    refine from_yl (S := fun wS => Mem w wS _) HF HM (i := 2) rfl rfl (d := 20) rfl (by decide) (v := .slice A ((lenR l).1) cp) (Yl.sliceUpto ei_u8 (j := (lenR l).1) rfl rfl rfl (by omega)) ?_; clear HF; intro a HF
    refine from_pures HF 1 3 (j := 4) [(0, .slice A ((lenR l).1) cp)] (by kernel_rfl) rfl ?_; clear HF; intro a HF
    refine from_done rfl ?_
    replace HF := HF.sub (σ' := [(0, .slice A ((lenR l).1) cp), (15, .bool false), (6, .int .i64 ((lenR l).2 : Int)), (5, .int .i64 ((lenR l).1 : Int)), (4, .int .i64 0), (3, .int .i64 0), (2, .pointer (some ⟨g2, 0, none⟩))]) (by kernel_rfl)
    obtain ⟨gA, oA, rfl, _⟩ := hrL.some_at (Nat.lt_of_le_of_lt (Nat.zero_le _) (show 0 < (lenR l).1 from by omega)) (by decide)
    refine wp_seq ?_
    refine wp_block ?_
    refine wp_seq ?_
    refine from_start ?_
    refine from_pures HF 1 0 (j := 1) [(22, .slice (some ⟨gA, oA, none⟩) ((lenR l).1) cp)] (by kernel_rfl) rfl ?_; clear HF; intro a HF
    refine from_op HF (i := 1) rfl rfl ?_
    refine e_call HF (vs := [.slice (some ⟨gA, oA, none⟩) ((lenR l).1) cp]) rfl (by kernel_rfl) (by kernel_rfl) rfl (by decide) (sealed_any _ (lenR l).1 cp Lb B _ (hL.mem HM hB) (HM.le hB) (HM.old hrL) (by omega) hnL (by omega) hlL) ?_
    rintro _ w23 ⟨rfl, hbw⟩
    refine ⟨_, rfl, ?_⟩
    replace HM := HM.call hbw
    clear HF; intro a HF
    refine from_pures HF 2 2 (j := 4) [(21, .bool (!(sealedR Lb))), (24, .bool (!(sealedR Lb)))] (by kernel_rfl) rfl ?_; clear HF; intro a HF
    refine from_done rfl ?_
    replace HF := HF.sub (σ' := [(21, .bool (!(sealedR Lb))), (0, .slice (some ⟨gA, oA, none⟩) ((lenR l).1) cp), (15, .bool false), (6, .int .i64 ((lenR l).2 : Int)), (5, .int .i64 ((lenR l).1 : Int)), (4, .int .i64 0), (3, .int .i64 0), (2, .pointer (some ⟨g2, 0, none⟩))]) (by kernel_rfl)
    rcases Bool.eq_false_or_eq_true (!(sealedR Lb)) with hb21 | hb21
    · have HF := HF.as (t := 21) (u := .bool true) rfl (by rw [hb21])
      have hs : sealedR Lb = false := by simpa using hb21
      refine cond_true HF rfl ?_
      refine wp_seq ?_
      refine from_start ?_
      refine from_yl (S := fun wS => Mem w wS _) HF HM (i := 0) rfl rfl (d := 25) rfl (by decide) (v := .agg #[.int .u8 0, .int .u8 0, .int .i64 0, .int .i64 0, .slice none 0 0]) (Yl.build (vs := []) rfl (by kernel_rfl) (by kernel_rfl)) ?_; clear HF; intro a HF
      refine from_op HF (i := 1) rfl rfl ?_
      refine e_storeAll HF HM (i := 0) (cs := #[.int .u8 0, .int .u8 0, .int .i64 0, .int .i64 0, .slice none 0 0]) (ds := #[.int .u8 0, .int .u8 0, .int .i64 0, .int .i64 0, .slice none 0 0]) rfl rfl rfl rfl si_bk rfl rfl (by simp [Value.oneCell']) rfl ?_
      clear HM; intro w6_1 HM
      refine from_pures HF 2 2 (j := 4) [(4, .int .i64 102), (3, .int .i64 0)] (by kernel_rfl) rfl ?_; clear HF; intro a HF
      refine from_done rfl ?_
      replace HF := HF.sub (σ' := [(4, .int .i64 102), (3, .int .i64 0), (21, .bool true), (0, .slice (some ⟨gA, oA, none⟩) ((lenR l).1) cp), (15, .bool false), (6, .int .i64 ((lenR l).2 : Int)), (5, .int .i64 ((lenR l).1 : Int)), (2, .pointer (some ⟨g2, 0, none⟩))]) (by kernel_rfl)
      refine wp_ret ?_
      exact ret3 rfl HF (.cellS (i := 0) HF HM rfl rfl si_bk rfl) (.tmp HF rfl) (.tmp HF rfl) (breadIs_bad (readB_none hl0 hLb (by unfold blkOf; rw [if_pos hs])) HM.below)
    · have HF := HF.as (t := 21) (u := .bool false) rfl (by rw [hb21])
      have hs : sealedR Lb = true := by simpa using hb21
      refine cond_false HF rfl ?_
      refine wp_seq ?_
      refine any_start (by kernel_rfl) (fun wS => Mem w wS [.blk g2 #[.int .u8 0, .int .u8 0, .int .i64 0, .int .i64 0, .slice none 0 0] 37]) [] ?_
      replace HM := HM.drew
      have HS := HM.picks (fs' := [.blk g2 #[.int .u8 0, .int .u8 0, .int .i64 0, .int .i64 0, .slice none 0 0] 37]) [0] (by decide) rfl
      refine any_pures HF (fun _ => HS) (fun _ _ d _ _ h => by cases d <;> exact h) [0] #[true, false, false, false, false, false, false] [(27, .slice (some ⟨gA, oA, none⟩) ((lenR l).1) cp)] (by kernel_rfl) ?_; clear HF; intro a HF
      refine any_yl HF HS (i := 1) rfl rfl (d := 28) rfl (by decide) (by kernel_rfl) (fun _ _ _ h => h) (v := .slice (if cp = 4 then some ⟨gA, oA, none⟩ else (some ⟨gA, oA, none⟩ : Option Addr).map (·.add (4 * 1))) (6 - 4) (cp - 4)) (Yl.slice2 ei_u8 (i := 4) (j := 6) rfl rfl rfl rfl (by omega) (by omega)) ?_; clear HF; intro a HF
      replace HF := HF.as (t := 28) (u := .slice (some ⟨gA, oA + 4, none⟩) (6 - 4) (cp - 4)) rfl (by simp only [if_neg (show ¬ cp = 4 by omega), Option.map_some, Addr.add_mid, Nat.mul_one])
      refine any_yl HF HS (i := 2) rfl rfl (d := 29) rfl (by decide) (by kernel_rfl) (fun _ _ _ h => h) (v := .pointer (some ⟨gA, oA + 4, none⟩)) (Yl.arrayAt (k := 2) rfl rfl (by kernel_rfl) (by omega)) ?_; clear HF; intro a HF
      refine any_yl HF HS (i := 3) rfl rfl (d := 30) rfl (by decide) (by kernel_rfl) (fun _ _ _ h => h) (v := .agg #[.int .u8 (Lb.getD 4 0 : Int), .int .u8 (Lb.getD 5 0 : Int)]) (Yl.loadS rfl rfl si_a2 rfl (fun _ h => arr2At (k := 4) (l := Lb) (h.old hrL) (by omega))) ?_; clear HF; intro a HF
      refine any_yl HF HS (i := 4) rfl rfl (d := 31) rfl (by decide) (by kernel_rfl) (fun _ _ _ h => h) (v := .agg #[.int .u8 113, .int .u8 116]) (Yl.loadS rfl rfl si_a2 rfl (fun _ h => magicAll hL h hB)) ?_; clear HF; intro a HF
      refine any_yl HF HS (i := 5) rfl rfl (d := 32) rfl (by decide) (by kernel_rfl) (fun _ _ _ h => h) (v := .bool (!((((Lb.getD 4 0 : Int) : Int) == (113 : Int)) && (((Lb.getD 5 0 : Int) : Int) == (116 : Int))))) (Yl.neqArr2 rfl rfl rfl (by kernel_rfl) (by kernel_rfl)) ?_; clear HF; intro a HF
      refine any_pures HF (fun _ => HS) (fun _ _ d _ _ h => by cases d <;> exact h) [6] #[true, true, true, true, true, true, true] [(26, .bool (!((((Lb.getD 4 0 : Int) : Int) == (113 : Int)) && (((Lb.getD 5 0 : Int) : Int) == (116 : Int)))))] (by kernel_rfl) ?_; clear HF; intro a HF
      refine any_done (by kernel_rfl) ?_
      replace HF := HF.sub (σ' := [(26, .bool (!((((Lb.getD 4 0 : Int) : Int) == (113 : Int)) && (((Lb.getD 5 0 : Int) : Int) == (116 : Int))))), (21, .bool false), (0, .slice (some ⟨gA, oA, none⟩) ((lenR l).1) cp), (15, .bool false), (6, .int .i64 ((lenR l).2 : Int)), (5, .int .i64 ((lenR l).1 : Int)), (4, .int .i64 0), (3, .int .i64 0), (2, .pointer (some ⟨g2, 0, none⟩))]) (by kernel_rfl)
      rcases Bool.eq_false_or_eq_true (!((((Lb.getD 4 0 : Int) : Int) == (113 : Int)) && (((Lb.getD 5 0 : Int) : Int) == (116 : Int)))) with hb26 | hb26
      · have HF := HF.as (t := 26) (u := .bool true) rfl (by rw [hb26])
        simp only [Bool.not_eq_true', Bool.and_eq_false_iff, beq_eq_false_iff_ne] at hb26
        have hmg : ¬ (Lb.getD 4 0 = 113 ∧ Lb.getD 5 0 = 116) := by omega
        refine cond_true HF rfl ?_
        refine wp_seq ?_
        refine from_start ?_
        refine from_yl (S := fun wS => Mem w wS _) HF HM (i := 0) rfl rfl (d := 33) rfl (by decide) (v := .agg #[.int .u8 0, .int .u8 0, .int .i64 0, .int .i64 0, .slice none 0 0]) (Yl.build (vs := []) rfl (by kernel_rfl) (by kernel_rfl)) ?_; clear HF; intro a HF
        refine from_op HF (i := 1) rfl rfl ?_
        refine e_storeAll HF HM (i := 0) (cs := #[.int .u8 0, .int .u8 0, .int .i64 0, .int .i64 0, .slice none 0 0]) (ds := #[.int .u8 0, .int .u8 0, .int .i64 0, .int .i64 0, .slice none 0 0]) rfl rfl rfl rfl si_bk rfl rfl (by simp [Value.oneCell']) rfl ?_
        clear HM; intro w8_1 HM
        refine from_pures HF 2 2 (j := 4) [(4, .int .i64 103), (3, .int .i64 0)] (by kernel_rfl) rfl ?_; clear HF; intro a HF
        refine from_done rfl ?_
        replace HF := HF.sub (σ' := [(4, .int .i64 103), (3, .int .i64 0), (26, .bool true), (21, .bool false), (0, .slice (some ⟨gA, oA, none⟩) ((lenR l).1) cp), (15, .bool false), (6, .int .i64 ((lenR l).2 : Int)), (5, .int .i64 ((lenR l).1 : Int)), (2, .pointer (some ⟨g2, 0, none⟩))]) (by kernel_rfl)
        refine wp_ret ?_
        exact ret3 rfl HF (.cellS (i := 0) HF HM rfl rfl si_bk rfl) (.tmp HF rfl) (.tmp HF rfl) (breadIs_bad (readB_none hl0 hLb (by unfold blkOf; rw [if_neg (by rw [hs]; decide), if_pos hmg])) HM.below)
      · have HF := HF.as (t := 26) (u := .bool false) rfl (by rw [hb26])
        simp only [Bool.not_eq_false', Bool.and_eq_true, beq_iff_eq] at hb26
        have hmg : Lb.getD 4 0 = 113 ∧ Lb.getD 5 0 = 116 := by omega
        refine cond_false HF rfl ?_
        refine wp_seq ?_
        refine from_start ?_
        refine from_pures HF 1 0 (j := 1) [(35, .slice (some ⟨gA, oA, none⟩) ((lenR l).1) cp)] (by kernel_rfl) rfl ?_; clear HF; intro a HF
        refine from_yl (S := fun wS => Mem w wS _) HF HM (i := 1) rfl rfl (d := 36) rfl (by decide) (v := .pointer (some ⟨gA, oA + 6, none⟩)) (Yl.indexAddr (ad := ⟨gA, oA, none⟩) (y := 6) (sz := 1) rfl rfl rfl (by omega) (by kernel_rfl)) ?_; clear HF; intro a HF
        have hx132 := getD_lt hlL (k := 6) (by first | omega | (simp; omega))
        refine from_yl (S := fun wS => Mem w wS _) HF HM (i := 2) rfl rfl (d := 37) rfl (by decide) (v := .int .u8 ((Lb.getD 6 0) : Int)) (Yl.load1 rfl rfl (by kernel_rfl) (fun _ h => (h.old hrL).oneAt1 (k := 6) (map_at (F := B8) (k := 6) (x := (Lb.getD 6 0)) ((getD_at 0 (k := 6) (by first | omega | (simp; omega))))))) ?_; clear HF; intro a HF
        refine from_pures HF 2 3 (j := 5) [(34, .bool ((((Lb.getD 6 0) : Int) : Int) != (1 : Int))), (38, .bool ((((Lb.getD 6 0) : Int) : Int) != (1 : Int)))] (by kernel_rfl) rfl ?_; clear HF; intro a HF
        refine from_done rfl ?_
        replace HF := HF.sub (σ' := [(34, .bool ((((Lb.getD 6 0) : Int) : Int) != (1 : Int))), (26, .bool false), (21, .bool false), (0, .slice (some ⟨gA, oA, none⟩) ((lenR l).1) cp), (15, .bool false), (6, .int .i64 ((lenR l).2 : Int)), (5, .int .i64 ((lenR l).1 : Int)), (4, .int .i64 0), (3, .int .i64 0), (2, .pointer (some ⟨g2, 0, none⟩))]) (by kernel_rfl)
        rcases Bool.eq_false_or_eq_true ((((Lb.getD 6 0) : Int) : Int) != (1 : Int)) with hb34 | hb34
        · have HF := HF.as (t := 34) (u := .bool true) rfl (by rw [hb34])
          have hd34 := bne_iff_ne.1 hb34
          refine cond_true HF rfl ?_
          refine wp_seq ?_
          refine from_start ?_
          refine from_yl (S := fun wS => Mem w wS _) HF HM (i := 0) rfl rfl (d := 39) rfl (by decide) (v := .agg #[.int .u8 0, .int .u8 0, .int .i64 0, .int .i64 0, .slice none 0 0]) (Yl.build (vs := []) rfl (by kernel_rfl) (by kernel_rfl)) ?_; clear HF; intro a HF
          refine from_op HF (i := 1) rfl rfl ?_
          refine e_storeAll HF HM (i := 0) (cs := #[.int .u8 0, .int .u8 0, .int .i64 0, .int .i64 0, .slice none 0 0]) (ds := #[.int .u8 0, .int .u8 0, .int .i64 0, .int .i64 0, .slice none 0 0]) rfl rfl rfl rfl si_bk rfl rfl (by simp [Value.oneCell']) rfl ?_
          clear HM; intro w10_1 HM
          refine from_pures HF 2 2 (j := 4) [(4, .int .i64 104), (3, .int .i64 0)] (by kernel_rfl) rfl ?_; clear HF; intro a HF
          refine from_done rfl ?_
          replace HF := HF.sub (σ' := [(4, .int .i64 104), (3, .int .i64 0), (34, .bool true), (26, .bool false), (21, .bool false), (0, .slice (some ⟨gA, oA, none⟩) ((lenR l).1) cp), (15, .bool false), (6, .int .i64 ((lenR l).2 : Int)), (5, .int .i64 ((lenR l).1 : Int)), (2, .pointer (some ⟨g2, 0, none⟩))]) (by kernel_rfl)
          refine wp_ret ?_
          exact ret3 rfl HF (.cellS (i := 0) HF HM rfl rfl si_bk rfl) (.tmp HF rfl) (.tmp HF rfl) (breadIs_bad (readB_none hl0 hLb (by unfold blkOf; rw [if_neg (by rw [hs]; decide), if_neg (fun hh => hh hmg), if_pos (by omega)])) HM.below)
        · have HF := HF.as (t := 34) (u := .bool false) rfl (by rw [hb34])
          have hd34 := bne_eq_false_iff_eq.1 hb34
          refine cond_false HF rfl ?_
          refine wp_seq ?_
          refine from_start ?_
          refine from_pures HF 1 0 (j := 1) [(41, .slice (some ⟨gA, oA, none⟩) ((lenR l).1) cp)] (by kernel_rfl) rfl ?_; clear HF; intro a HF
          refine from_yl (S := fun wS => Mem w wS _) HF HM (i := 1) rfl rfl (d := 42) rfl (by decide) (v := .pointer (some ⟨gA, oA + 7, none⟩)) (Yl.indexAddr (ad := ⟨gA, oA, none⟩) (y := 7) (sz := 1) rfl rfl rfl (by omega) (by kernel_rfl)) ?_; clear HF; intro a HF
          have hx159 := getD_lt hlL (k := 7) (by first | omega | (simp; omega))
          refine from_yl (S := fun wS => Mem w wS _) HF HM (i := 2) rfl rfl (d := 43) rfl (by decide) (v := .int .u8 ((Lb.getD 7 0) : Int)) (Yl.load1 rfl rfl (by kernel_rfl) (fun _ h => (h.old hrL).oneAt1 (k := 7) (map_at (F := B8) (k := 7) (x := (Lb.getD 7 0)) ((getD_at 0 (k := 7) (by first | omega | (simp; omega))))))) ?_; clear HF; intro a HF
          refine from_pures HF 2 3 (j := 5) [(45, .bool ((((Lb.getD 7 0) : Int) : Int) != (1 : Int))), (44, .bool ((((Lb.getD 7 0) : Int) : Int) != (1 : Int)))] (by kernel_rfl) rfl ?_; clear HF; intro a HF
          rcases Bool.eq_false_or_eq_true ((((Lb.getD 7 0) : Int) : Int) != (1 : Int)) with hb45 | hb45
          · have HF := HF.as (t := 45) (u := .bool true) rfl (by rw [hb45])
            have hd45 := bne_iff_ne.1 hb45
            refine from_pures HF 1 5 (j := 6) [(46, .slice (some ⟨gA, oA, none⟩) ((lenR l).1) cp)] (by kernel_rfl) rfl ?_; clear HF; intro a HF
            refine from_yl (S := fun wS => Mem w wS _) HF HM (i := 6) rfl rfl (d := 47) rfl (by decide) (v := .pointer (some ⟨gA, oA + 7, none⟩)) (Yl.indexAddr (ad := ⟨gA, oA, none⟩) (y := 7) (sz := 1) rfl rfl rfl (by omega) (by kernel_rfl)) ?_; clear HF; intro a HF
            have hx167 := getD_lt hlL (k := 7) (by first | omega | (simp; omega))
            refine from_yl (S := fun wS => Mem w wS _) HF HM (i := 7) rfl rfl (d := 48) rfl (by decide) (v := .int .u8 ((Lb.getD 7 0) : Int)) (Yl.load1 rfl rfl (by kernel_rfl) (fun _ h => (h.old hrL).oneAt1 (k := 7) (map_at (F := B8) (k := 7) (x := (Lb.getD 7 0)) ((getD_at 0 (k := 7) (by first | omega | (simp; omega))))))) ?_; clear HF; intro a HF
            refine from_pures HF 3 8 (j := 11) [(40, .bool ((((Lb.getD 7 0) : Int) : Int) != (2 : Int))), (50, .bool ((((Lb.getD 7 0) : Int) : Int) != (2 : Int))), (49, .bool ((((Lb.getD 7 0) : Int) : Int) != (2 : Int)))] (by kernel_rfl) rfl ?_; clear HF; intro a HF
            refine from_done rfl ?_
            replace HF := HF.sub (σ' := [(40, .bool ((((Lb.getD 7 0) : Int) : Int) != (2 : Int))), (34, .bool false), (26, .bool false), (21, .bool false), (0, .slice (some ⟨gA, oA, none⟩) ((lenR l).1) cp), (15, .bool false), (6, .int .i64 ((lenR l).2 : Int)), (5, .int .i64 ((lenR l).1 : Int)), (4, .int .i64 0), (3, .int .i64 0), (2, .pointer (some ⟨g2, 0, none⟩))]) (by kernel_rfl)
            rcases hp : parseR (Lb.getD 7 0) ((Lb.take (Lb.length - 4)).drop 8) with _ | b
            ·
              rcases Bool.eq_false_or_eq_true ((((Lb.getD 7 0) : Int) : Int) != (2 : Int)) with hb40 | hb40
              · have HF := HF.as (t := 40) (u := .bool true) rfl (by rw [hb40])
                have hd40 := bne_iff_ne.1 hb40
                have hkd : Lb.getD 7 0 ≠ 1 ∧ Lb.getD 7 0 ≠ 2 := by omega
                refine cond_true HF rfl ?_
                refine wp_seq ?_
                refine from_start ?_
                refine from_yl (S := fun wS => Mem w wS _) HF HM (i := 0) rfl rfl (d := 51) rfl (by decide) (v := .agg #[.int .u8 0, .int .u8 0, .int .i64 0, .int .i64 0, .slice none 0 0]) (Yl.build (vs := []) rfl (by kernel_rfl) (by kernel_rfl)) ?_; clear HF; intro a HF
                refine from_op HF (i := 1) rfl rfl ?_
                refine e_storeAll HF HM (i := 0) (cs := #[.int .u8 0, .int .u8 0, .int .i64 0, .int .i64 0, .slice none 0 0]) (ds := #[.int .u8 0, .int .u8 0, .int .i64 0, .int .i64 0, .slice none 0 0]) rfl rfl rfl rfl si_bk rfl rfl (by simp [Value.oneCell']) rfl ?_
                clear HM; intro w12_1 HM
                refine from_pures HF 2 2 (j := 4) [(4, .int .i64 105), (3, .int .i64 0)] (by kernel_rfl) rfl ?_; clear HF; intro a HF
                refine from_done rfl ?_
                replace HF := HF.sub (σ' := [(4, .int .i64 105), (3, .int .i64 0), (40, .bool true), (34, .bool false), (26, .bool false), (21, .bool false), (0, .slice (some ⟨gA, oA, none⟩) ((lenR l).1) cp), (15, .bool false), (6, .int .i64 ((lenR l).2 : Int)), (5, .int .i64 ((lenR l).1 : Int)), (2, .pointer (some ⟨g2, 0, none⟩))]) (by kernel_rfl)
                refine wp_ret ?_
                exact ret3 rfl HF (.cellS (i := 0) HF HM rfl rfl si_bk rfl) (.tmp HF rfl) (.tmp HF rfl) (breadIs_bad (readB_none hl0 hLb (by unfold blkOf; rw [if_neg (by rw [hs]; decide), if_neg (fun hh => hh hmg), if_neg (by omega), if_pos hkd])) HM.below)
              · have HF := HF.as (t := 40) (u := .bool false) rfl (by rw [hb40])
                have hd40 := bne_eq_false_iff_eq.1 hb40
                have hkd : Lb.getD 7 0 = 1 ∨ Lb.getD 7 0 = 2 := by omega
                refine cond_false HF rfl ?_
                refine wp_skip ?_
                refine cut_seq (fun aS wS => ∃ (cs : Array Value) (g7 : Nat), Fr aS 68 [] [(8, .bool false), (7, .pointer (some ⟨g7, 0, none⟩)), (40, .bool false), (34, .bool false), (26, .bool false), (21, .bool false), (0, .slice (some ⟨gA, oA, none⟩) ((lenR l).1) cp), (15, .bool false), (6, .int .i64 ((lenR l).2 : Int)), (5, .int .i64 ((lenR l).1 : Int)), (4, .int .i64 0), (3, .int .i64 0), (2, .pointer (some ⟨g2, 0, none⟩))] ∧ Mem w wS [.blk g7 cs 37, .blk g2 #[.int .u8 0, .int .u8 0, .int .i64 0, .int .i64 0, .slice none 0 0] 37] ∧ (cs.size = 5) ∧ (∀ v ∈ cs.toList, v.oneCell' = true)) ?_ ?_
                ·
                  refine any_start (by kernel_rfl) (fun wS => Mem w wS [.blk g2 #[.int .u8 0, .int .u8 0, .int .i64 0, .int .i64 0, .slice none 0 0] 37]) [12] ?_
                  replace HM := HM.drew
                  have HS := HM.picks (fs' := [.blk g2 #[.int .u8 0, .int .u8 0, .int .i64 0, .int .i64 0, .slice none 0 0] 37]) [0] (by decide) rfl
                  refine any_pures HF (fun _ => HS) (fun _ _ d _ _ h => by cases d <;> exact h) [0, 3, 4] #[true, false, false, true, true, false, false, false, false, false, false, false, false, false] [(57, .int .i64 ((lenR l).1 : Int)), (56, .slice (some ⟨gA, oA, none⟩) ((lenR l).1) cp), (53, .slice (some ⟨gA, oA, none⟩) ((lenR l).1) cp)] (by kernel_rfl) ?_; clear HF; intro a HF
                  refine any_yl HF HS (i := 1) rfl rfl (d := 54) rfl (by decide) (by kernel_rfl) (fun _ _ _ h => h) (v := .pointer (some ⟨gA, oA + 7, none⟩)) (Yl.indexAddr (ad := ⟨gA, oA, none⟩) (y := 7) (sz := 1) rfl rfl rfl (by omega) (by kernel_rfl)) ?_; clear HF; intro a HF
                  have hx202 := getD_lt hlL (k := 7) (by first | omega | (simp; omega))
                  refine any_yl HF HS (i := 2) rfl rfl (d := 55) rfl (by decide) (by kernel_rfl) (fun _ _ _ h => h) (v := .int .u8 ((Lb.getD 7 0) : Int)) (Yl.load1 rfl rfl (by kernel_rfl) (fun _ h => (h.old hrL).oneAt1 (k := 7) (map_at (F := B8) (k := 7) (x := (Lb.getD 7 0)) ((getD_at 0 (k := 7) (by first | omega | (simp; omega))))))) ?_; clear HF; intro a HF
                  refine any_pure HF (fun _ => HS) (i := 5) rfl rfl (d := 58) rfl (by decide) (by kernel_rfl) (fun _ _ _ h => h) (v := .int .i64 (IntKind.i64.wrap (((lenR l).1 : Int) - 4))) (fun _ => Yl.pure (by kernel_rfl)) ?_; clear HF; intro a HF
                  replace HF := HF.as (t := 58) (u := .int .i64 (((lenR l).1 - 4 : Nat) : Int)) rfl (i64_nat (by omega) (by omega))
                  refine any_yl HF HS (i := 6) rfl rfl (d := 59) rfl (by decide) (by kernel_rfl) (fun _ _ _ h => h) (v := .slice (if cp = 8 then some ⟨gA, oA, none⟩ else (some ⟨gA, oA, none⟩ : Option Addr).map (·.add (8 * 1))) (((lenR l).1 - 4) - 8) (cp - 8)) (Yl.slice2 ei_u8 (i := 8) (j := (lenR l).1 - 4) rfl rfl rfl rfl (by omega) (by omega)) ?_; clear HF; intro a HF
                  refine any_all [7, 11] (by kernel_rfl) rfl ?_
                  refine all_cons ?_ ?_
                  · refine any_op HF (i := 7) rfl rfl ?_
                    refine e_call HF (vs := [.int .u8 ((Lb.getD 7 0) : Int), .slice (if cp = 8 then some ⟨gA, oA, none⟩ else (some ⟨gA, oA, none⟩ : Option Addr).map (·.add (8 * 1))) (((lenR l).1 - 4) - 8) (cp - 8)]) rfl (by kernel_rfl) (by kernel_rfl) rfl (by decide) ((parse_any (Lb.getD 7 0) hkd _ (((lenR l).1 - 4) - 8) (cp - 8) ((Lb.take (Lb.length - 4)).drop 8) B _ (hL.mem HM hB) (HM.le hB) (HM.old (by rw [hnL]; exact hrL.midB8 (i := 8) (j := (lenR l).1 - 4) (by omega) (by omega) (by omega))) (by omega) (by rw [List.length_drop, List.length_take]; omega) (by omega) (drop_lt (take_lt hlL _) _)).mono (fun _ _ h => h.none hp)) ?_
                    rintro _ w60 ⟨⟨cs, rfl, hs5, h1⟩, hbw⟩
                    refine ⟨_, rfl, ?_⟩
                    replace HM := HM.call hbw
                    clear HF; intro a HF
                    refine keepS (HM.picks [0] (by decide) rfl) (fun HS => ?_)
                    refine any_pures HF (fun _ => HS) (fun _ _ d _ _ h => by cases d <;> exact h) [8, 9, 10] #[true, true, true, true, true, true, true, true, true, true, true, false, false, false] [(62, .bool false), (61, .agg cs), (52, .tuple #[.agg cs, .bool false])] (by kernel_rfl) ?_; clear HF; intro a HF
                    refine any_all [11] (by kernel_rfl) rfl ?_
                    refine all_cons ?_ all_nil
                    refine any_op HF (i := 11) rfl rfl ?_
                    refine e_alloc HF HM (cs := #[.int .u8 0, .int .u8 0, .int .i64 0, .int .i64 0, .slice none 0 0]) rfl (by kernel_rfl) rfl (by decide) ?_
                    clear HF HM; intro a w7 g7 HF HM
                    refine keepS (HM.picks [1] (by decide) rfl) (fun HS => ?_)
                    refine any_all [12] (by kernel_rfl) rfl ?_
                    refine all_cons ?_ all_nil
                    refine any_op HF (i := 12) rfl rfl ?_
                    refine e_storeAll HF HM (i := 0) (cs := #[.int .u8 0, .int .u8 0, .int .i64 0, .int .i64 0, .slice none 0 0]) (ds := cs) rfl rfl rfl rfl si_bk rfl hs5 (h1) rfl ?_
                    clear HM; intro w13_12 HM
                    refine noS (by kernel_rfl) ?_
                    refine any_pures HF (pastS (by kernel_rfl)) (fun _ _ d _ _ h => by cases d <;> exact h) [13] #[true, true, true, true, true, true, true, true, true, true, true, true, true, true] [(8, .bool false)] (by kernel_rfl) ?_; clear HF; intro a HF
                    refine any_done (by kernel_rfl) ?_
                    replace HF := HF.sub (σ' := [(8, .bool false), (7, .pointer (some ⟨g7, 0, none⟩)), (40, .bool false), (34, .bool false), (26, .bool false), (21, .bool false), (0, .slice (some ⟨gA, oA, none⟩) ((lenR l).1) cp), (15, .bool false), (6, .int .i64 ((lenR l).2 : Int)), (5, .int .i64 ((lenR l).1 : Int)), (4, .int .i64 0), (3, .int .i64 0), (2, .pointer (some ⟨g2, 0, none⟩))]) (by kernel_rfl)
                    exact ⟨cs, g7, HF.sub (by kernel_rfl), HM.picks [0, 1] (by decide) rfl, hs5, h1⟩
                  refine all_cons ?_ all_nil
                  refine any_op HF (i := 11) rfl rfl ?_
                  refine e_alloc HF HM (cs := #[.int .u8 0, .int .u8 0, .int .i64 0, .int .i64 0, .slice none 0 0]) rfl (by kernel_rfl) rfl (by decide) ?_
                  clear HF HM; intro a w7 g7 HF HM
                  refine keepS (HM.picks [1] (by decide) rfl) (fun HS => ?_)
                  refine any_all [7] (by kernel_rfl) rfl ?_
                  refine all_cons ?_ all_nil
                  refine any_op HF (i := 7) rfl rfl ?_
                  refine e_call HF (vs := [.int .u8 ((Lb.getD 7 0) : Int), .slice (if cp = 8 then some ⟨gA, oA, none⟩ else (some ⟨gA, oA, none⟩ : Option Addr).map (·.add (8 * 1))) (((lenR l).1 - 4) - 8) (cp - 8)]) rfl (by kernel_rfl) (by kernel_rfl) rfl (by decide) ((parse_any (Lb.getD 7 0) hkd _ (((lenR l).1 - 4) - 8) (cp - 8) ((Lb.take (Lb.length - 4)).drop 8) B _ (hL.mem HM hB) (HM.le hB) (HM.old (by rw [hnL]; exact hrL.midB8 (i := 8) (j := (lenR l).1 - 4) (by omega) (by omega) (by omega))) (by omega) (by rw [List.length_drop, List.length_take]; omega) (by omega) (drop_lt (take_lt hlL _) _)).mono (fun _ _ h => h.none hp)) ?_
                  rintro _ w60 ⟨⟨cs, rfl, hs5, h1⟩, hbw⟩
                  refine ⟨_, rfl, ?_⟩
                  replace HM := HM.call hbw
                  clear HF; intro a HF
                  refine keepS (HM.picks [1] (by decide) rfl) (fun HS => ?_)
                  refine any_pures HF (fun _ => HS) (fun _ _ d _ _ h => by cases d <;> exact h) [8, 9, 10] #[true, true, true, true, true, true, true, true, true, true, true, true, false, false] [(62, .bool false), (61, .agg cs), (52, .tuple #[.agg cs, .bool false])] (by kernel_rfl) ?_; clear HF; intro a HF
                  refine any_all [12] (by kernel_rfl) rfl ?_
                  refine all_cons ?_ all_nil
                  refine any_op HF (i := 12) rfl rfl ?_
                  refine e_storeAll HF HM (i := 0) (cs := #[.int .u8 0, .int .u8 0, .int .i64 0, .int .i64 0, .slice none 0 0]) (ds := cs) rfl rfl rfl rfl si_bk rfl hs5 (h1) rfl ?_
                  clear HM; intro w13_12 HM
                  refine noS (by kernel_rfl) ?_
                  refine any_pures HF (pastS (by kernel_rfl)) (fun _ _ d _ _ h => by cases d <;> exact h) [13] #[true, true, true, true, true, true, true, true, true, true, true, true, true, true] [(8, .bool false)] (by kernel_rfl) ?_; clear HF; intro a HF
                  refine any_done (by kernel_rfl) ?_
                  replace HF := HF.sub (σ' := [(8, .bool false), (7, .pointer (some ⟨g7, 0, none⟩)), (40, .bool false), (34, .bool false), (26, .bool false), (21, .bool false), (0, .slice (some ⟨gA, oA, none⟩) ((lenR l).1) cp), (15, .bool false), (6, .int .i64 ((lenR l).2 : Int)), (5, .int .i64 ((lenR l).1 : Int)), (4, .int .i64 0), (3, .int .i64 0), (2, .pointer (some ⟨g2, 0, none⟩))]) (by kernel_rfl)
                  exact ⟨cs, g7, HF.sub (by kernel_rfl), HM.picks [0, 1] (by decide) rfl, hs5, h1⟩
                clear HF HM; rintro a w13 ⟨cs, g7, HF, HM, hs5, h1⟩
                refine wp_seq ?_
                refine wp_seq ?_
                refine from_start ?_
                refine from_pures HF 2 0 (j := 2) [(64, .bool true), (63, .bool false)] (by kernel_rfl) rfl ?_; clear HF; intro a HF
                refine from_done rfl ?_
                replace HF := HF.sub (σ' := [(64, .bool true), (7, .pointer (some ⟨g7, 0, none⟩)), (40, .bool false), (34, .bool false), (26, .bool false), (21, .bool false), (0, .slice (some ⟨gA, oA, none⟩) ((lenR l).1) cp), (15, .bool false), (6, .int .i64 ((lenR l).2 : Int)), (5, .int .i64 ((lenR l).1 : Int)), (4, .int .i64 0), (3, .int .i64 0), (2, .pointer (some ⟨g2, 0, none⟩))]) (by kernel_rfl)
                refine cond_true HF rfl ?_
                refine wp_seq ?_
                refine from_start ?_
                refine from_yl (S := fun wS => Mem w wS _) HF HM (i := 0) rfl rfl (d := 65) rfl (by decide) (v := .agg #[.int .u8 0, .int .u8 0, .int .i64 0, .int .i64 0, .slice none 0 0]) (Yl.build (vs := []) rfl (by kernel_rfl) (by kernel_rfl)) ?_; clear HF; intro a HF
                refine from_op HF (i := 1) rfl rfl ?_
                refine e_storeAll HF HM (i := 1) (cs := #[.int .u8 0, .int .u8 0, .int .i64 0, .int .i64 0, .slice none 0 0]) (ds := #[.int .u8 0, .int .u8 0, .int .i64 0, .int .i64 0, .slice none 0 0]) rfl rfl rfl rfl si_bk rfl rfl (by simp [Value.oneCell']) rfl ?_
                clear HM; intro w15_1 HM
                refine from_pures HF 2 2 (j := 4) [(4, .int .i64 106), (3, .int .i64 0)] (by kernel_rfl) rfl ?_; clear HF; intro a HF
                refine from_done rfl ?_
                replace HF := HF.sub (σ' := [(4, .int .i64 106), (3, .int .i64 0), (64, .bool true), (7, .pointer (some ⟨g7, 0, none⟩)), (40, .bool false), (34, .bool false), (26, .bool false), (21, .bool false), (0, .slice (some ⟨gA, oA, none⟩) ((lenR l).1) cp), (15, .bool false), (6, .int .i64 ((lenR l).2 : Int)), (5, .int .i64 ((lenR l).1 : Int)), (2, .pointer (some ⟨g2, 0, none⟩))]) (by kernel_rfl)
                refine wp_ret ?_
                exact ret3 rfl HF (.cellS (i := 1) HF HM rfl rfl si_bk rfl) (.tmp HF rfl) (.tmp HF rfl) (breadIs_bad (readB_none hl0 hLb (by unfold blkOf; rw [if_neg (by rw [hs]; decide), if_neg (fun hh => hh hmg), if_neg (by omega), if_neg (by omega), hp])) HM.below)
            ·
              rcases Bool.eq_false_or_eq_true ((((Lb.getD 7 0) : Int) : Int) != (2 : Int)) with hb40 | hb40
              · have HF := HF.as (t := 40) (u := .bool true) rfl (by rw [hb40])
                have hd40 := bne_iff_ne.1 hb40
                have hkd : Lb.getD 7 0 ≠ 1 ∧ Lb.getD 7 0 ≠ 2 := by omega
                refine cond_true HF rfl ?_
                refine wp_seq ?_
                refine from_start ?_
                refine from_yl (S := fun wS => Mem w wS _) HF HM (i := 0) rfl rfl (d := 51) rfl (by decide) (v := .agg #[.int .u8 0, .int .u8 0, .int .i64 0, .int .i64 0, .slice none 0 0]) (Yl.build (vs := []) rfl (by kernel_rfl) (by kernel_rfl)) ?_; clear HF; intro a HF
                refine from_op HF (i := 1) rfl rfl ?_
                refine e_storeAll HF HM (i := 0) (cs := #[.int .u8 0, .int .u8 0, .int .i64 0, .int .i64 0, .slice none 0 0]) (ds := #[.int .u8 0, .int .u8 0, .int .i64 0, .int .i64 0, .slice none 0 0]) rfl rfl rfl rfl si_bk rfl rfl (by simp [Value.oneCell']) rfl ?_
                clear HM; intro w12_1 HM
                refine from_pures HF 2 2 (j := 4) [(4, .int .i64 105), (3, .int .i64 0)] (by kernel_rfl) rfl ?_; clear HF; intro a HF
                refine from_done rfl ?_
                replace HF := HF.sub (σ' := [(4, .int .i64 105), (3, .int .i64 0), (40, .bool true), (34, .bool false), (26, .bool false), (21, .bool false), (0, .slice (some ⟨gA, oA, none⟩) ((lenR l).1) cp), (15, .bool false), (6, .int .i64 ((lenR l).2 : Int)), (5, .int .i64 ((lenR l).1 : Int)), (2, .pointer (some ⟨g2, 0, none⟩))]) (by kernel_rfl)
                refine wp_ret ?_
                exact ret3 rfl HF (.cellS (i := 0) HF HM rfl rfl si_bk rfl) (.tmp HF rfl) (.tmp HF rfl) (breadIs_bad (readB_none hl0 hLb (by unfold blkOf; rw [if_neg (by rw [hs]; decide), if_neg (fun hh => hh hmg), if_neg (by omega), if_pos hkd])) HM.below)
              · have HF := HF.as (t := 40) (u := .bool false) rfl (by rw [hb40])
                have hd40 := bne_eq_false_iff_eq.1 hb40
                have hkd : Lb.getD 7 0 = 1 ∨ Lb.getD 7 0 = 2 := by omega
                refine cond_false HF rfl ?_
                refine wp_skip ?_
                refine cut_seq (fun aS wS => ∃ (Ab : Option Addr) (cb : Nat) (g7 : Nat), Fr aS 68 [] [(8, .bool true), (7, .pointer (some ⟨g7, 0, none⟩)), (40, .bool false), (34, .bool false), (26, .bool false), (21, .bool false), (0, .slice (some ⟨gA, oA, none⟩) ((lenR l).1) cp), (15, .bool false), (6, .int .i64 ((lenR l).2 : Int)), (5, .int .i64 ((lenR l).1 : Int)), (4, .int .i64 0), (3, .int .i64 0), (2, .pointer (some ⟨g2, 0, none⟩))] ∧ Mem w wS [.blk g7 (b.cells Ab cb) 37, .row (.slice Ab b.evs.length cb) b.evs.length (b.evs.flatMap evL) 55 11, .blk g2 #[.int .u8 0, .int .u8 0, .int .i64 0, .int .i64 0, .slice none 0 0] 37] ∧ (b.evs.length ≤ cb)) ?_ ?_
                ·
                  refine any_start (by kernel_rfl) (fun wS => Mem w wS [.blk g2 #[.int .u8 0, .int .u8 0, .int .i64 0, .int .i64 0, .slice none 0 0] 37]) [12] ?_
                  replace HM := HM.drew
                  have HS := HM.picks (fs' := [.blk g2 #[.int .u8 0, .int .u8 0, .int .i64 0, .int .i64 0, .slice none 0 0] 37]) [0] (by decide) rfl
                  refine any_pures HF (fun _ => HS) (fun _ _ d _ _ h => by cases d <;> exact h) [0, 3, 4] #[true, false, false, true, true, false, false, false, false, false, false, false, false, false] [(57, .int .i64 ((lenR l).1 : Int)), (56, .slice (some ⟨gA, oA, none⟩) ((lenR l).1) cp), (53, .slice (some ⟨gA, oA, none⟩) ((lenR l).1) cp)] (by kernel_rfl) ?_; clear HF; intro a HF
                  refine any_yl HF HS (i := 1) rfl rfl (d := 54) rfl (by decide) (by kernel_rfl) (fun _ _ _ h => h) (v := .pointer (some ⟨gA, oA + 7, none⟩)) (Yl.indexAddr (ad := ⟨gA, oA, none⟩) (y := 7) (sz := 1) rfl rfl rfl (by omega) (by kernel_rfl)) ?_; clear HF; intro a HF
                  have hx306 := getD_lt hlL (k := 7) (by first | omega | (simp; omega))
                  refine any_yl HF HS (i := 2) rfl rfl (d := 55) rfl (by decide) (by kernel_rfl) (fun _ _ _ h => h) (v := .int .u8 ((Lb.getD 7 0) : Int)) (Yl.load1 rfl rfl (by kernel_rfl) (fun _ h => (h.old hrL).oneAt1 (k := 7) (map_at (F := B8) (k := 7) (x := (Lb.getD 7 0)) ((getD_at 0 (k := 7) (by first | omega | (simp; omega))))))) ?_; clear HF; intro a HF
                  refine any_pure HF (fun _ => HS) (i := 5) rfl rfl (d := 58) rfl (by decide) (by kernel_rfl) (fun _ _ _ h => h) (v := .int .i64 (IntKind.i64.wrap (((lenR l).1 : Int) - 4))) (fun _ => Yl.pure (by kernel_rfl)) ?_; clear HF; intro a HF
                  replace HF := HF.as (t := 58) (u := .int .i64 (((lenR l).1 - 4 : Nat) : Int)) rfl (i64_nat (by omega) (by omega))
                  refine any_yl HF HS (i := 6) rfl rfl (d := 59) rfl (by decide) (by kernel_rfl) (fun _ _ _ h => h) (v := .slice (if cp = 8 then some ⟨gA, oA, none⟩ else (some ⟨gA, oA, none⟩ : Option Addr).map (·.add (8 * 1))) (((lenR l).1 - 4) - 8) (cp - 8)) (Yl.slice2 ei_u8 (i := 8) (j := (lenR l).1 - 4) rfl rfl rfl rfl (by omega) (by omega)) ?_; clear HF; intro a HF
                  refine any_all [7, 11] (by kernel_rfl) rfl ?_
                  refine all_cons ?_ ?_
                  · refine any_op HF (i := 7) rfl rfl ?_
                    refine e_call HF (vs := [.int .u8 ((Lb.getD 7 0) : Int), .slice (if cp = 8 then some ⟨gA, oA, none⟩ else (some ⟨gA, oA, none⟩ : Option Addr).map (·.add (8 * 1))) (((lenR l).1 - 4) - 8) (cp - 8)]) rfl (by kernel_rfl) (by kernel_rfl) rfl (by decide) ((parse_any (Lb.getD 7 0) hkd _ (((lenR l).1 - 4) - 8) (cp - 8) ((Lb.take (Lb.length - 4)).drop 8) B _ (hL.mem HM hB) (HM.le hB) (HM.old (by rw [hnL]; exact hrL.midB8 (i := 8) (j := (lenR l).1 - 4) (by omega) (by omega) (by omega))) (by omega) (by rw [List.length_drop, List.length_take]; omega) (by omega) (drop_lt (take_lt hlL _) _)).mono (fun _ _ h => h.some hp)) ?_
                    rintro _ w60 ⟨⟨Ab, cb, rfl, ho, hcb⟩, hbw⟩
                    refine ⟨_, rfl, ?_⟩
                    replace HM := HM.callRow hbw ho
                    clear HF; intro a HF
                    refine keepS (HM.picks [1] (by decide) rfl) (fun HS => ?_)
                    refine any_pures HF (fun _ => HS) (fun _ _ d _ _ h => by cases d <;> exact h) [8, 9, 10] #[true, true, true, true, true, true, true, true, true, true, true, false, false, false] [(62, .bool true), (61, .agg (b.cells Ab cb)), (52, .tuple #[.agg (b.cells Ab cb), .bool true])] (by kernel_rfl) ?_; clear HF; intro a HF
                    refine any_all [11] (by kernel_rfl) rfl ?_
                    refine all_cons ?_ all_nil
                    refine any_op HF (i := 11) rfl rfl ?_
                    refine e_alloc HF HM (cs := #[.int .u8 0, .int .u8 0, .int .i64 0, .int .i64 0, .slice none 0 0]) rfl (by kernel_rfl) rfl (by decide) ?_
                    clear HF HM; intro a w7 g7 HF HM
                    refine keepS (HM.picks [2] (by decide) rfl) (fun HS => ?_)
                    refine any_all [12] (by kernel_rfl) rfl ?_
                    refine all_cons ?_ all_nil
                    refine any_op HF (i := 12) rfl rfl ?_
                    refine e_storeAll HF HM (i := 0) (cs := #[.int .u8 0, .int .u8 0, .int .i64 0, .int .i64 0, .slice none 0 0]) (ds := (b.cells Ab cb)) rfl rfl rfl rfl si_bk rfl rfl (bk_one _ _ _) rfl ?_
                    clear HM; intro w13_12 HM
                    refine noS (by kernel_rfl) ?_
                    refine any_pures HF (pastS (by kernel_rfl)) (fun _ _ d _ _ h => by cases d <;> exact h) [13] #[true, true, true, true, true, true, true, true, true, true, true, true, true, true] [(8, .bool true)] (by kernel_rfl) ?_; clear HF; intro a HF
                    refine any_done (by kernel_rfl) ?_
                    replace HF := HF.sub (σ' := [(8, .bool true), (7, .pointer (some ⟨g7, 0, none⟩)), (40, .bool false), (34, .bool false), (26, .bool false), (21, .bool false), (0, .slice (some ⟨gA, oA, none⟩) ((lenR l).1) cp), (15, .bool false), (6, .int .i64 ((lenR l).2 : Int)), (5, .int .i64 ((lenR l).1 : Int)), (4, .int .i64 0), (3, .int .i64 0), (2, .pointer (some ⟨g2, 0, none⟩))]) (by kernel_rfl)
                    exact ⟨Ab, cb, g7, HF.sub (by kernel_rfl), HM.picks [0, 1, 2] (by decide) rfl, hcb⟩
                  refine all_cons ?_ all_nil
                  refine any_op HF (i := 11) rfl rfl ?_
                  refine e_alloc HF HM (cs := #[.int .u8 0, .int .u8 0, .int .i64 0, .int .i64 0, .slice none 0 0]) rfl (by kernel_rfl) rfl (by decide) ?_
                  clear HF HM; intro a w7 g7 HF HM
                  refine keepS (HM.picks [1] (by decide) rfl) (fun HS => ?_)
                  refine any_all [7] (by kernel_rfl) rfl ?_
                  refine all_cons ?_ all_nil
                  refine any_op HF (i := 7) rfl rfl ?_
                  refine e_call HF (vs := [.int .u8 ((Lb.getD 7 0) : Int), .slice (if cp = 8 then some ⟨gA, oA, none⟩ else (some ⟨gA, oA, none⟩ : Option Addr).map (·.add (8 * 1))) (((lenR l).1 - 4) - 8) (cp - 8)]) rfl (by kernel_rfl) (by kernel_rfl) rfl (by decide) ((parse_any (Lb.getD 7 0) hkd _ (((lenR l).1 - 4) - 8) (cp - 8) ((Lb.take (Lb.length - 4)).drop 8) B _ (hL.mem HM hB) (HM.le hB) (HM.old (by rw [hnL]; exact hrL.midB8 (i := 8) (j := (lenR l).1 - 4) (by omega) (by omega) (by omega))) (by omega) (by rw [List.length_drop, List.length_take]; omega) (by omega) (drop_lt (take_lt hlL _) _)).mono (fun _ _ h => h.some hp)) ?_
                  rintro _ w60 ⟨⟨Ab, cb, rfl, ho, hcb⟩, hbw⟩
                  refine ⟨_, rfl, ?_⟩
                  replace HM := HM.callRow hbw ho
                  clear HF; intro a HF
                  refine keepS (HM.picks [2] (by decide) rfl) (fun HS => ?_)
                  refine any_pures HF (fun _ => HS) (fun _ _ d _ _ h => by cases d <;> exact h) [8, 9, 10] #[true, true, true, true, true, true, true, true, true, true, true, true, false, false] [(62, .bool true), (61, .agg (b.cells Ab cb)), (52, .tuple #[.agg (b.cells Ab cb), .bool true])] (by kernel_rfl) ?_; clear HF; intro a HF
                  refine any_all [12] (by kernel_rfl) rfl ?_
                  refine all_cons ?_ all_nil
                  refine any_op HF (i := 12) rfl rfl ?_
                  refine e_storeAll HF HM (i := 1) (cs := #[.int .u8 0, .int .u8 0, .int .i64 0, .int .i64 0, .slice none 0 0]) (ds := (b.cells Ab cb)) rfl rfl rfl rfl si_bk rfl rfl (bk_one _ _ _) rfl ?_
                  clear HM; intro w13_12 HM
                  refine noS (by kernel_rfl) ?_
                  refine any_pures HF (pastS (by kernel_rfl)) (fun _ _ d _ _ h => by cases d <;> exact h) [13] #[true, true, true, true, true, true, true, true, true, true, true, true, true, true] [(8, .bool true)] (by kernel_rfl) ?_; clear HF; intro a HF
                  refine any_done (by kernel_rfl) ?_
                  replace HF := HF.sub (σ' := [(8, .bool true), (7, .pointer (some ⟨g7, 0, none⟩)), (40, .bool false), (34, .bool false), (26, .bool false), (21, .bool false), (0, .slice (some ⟨gA, oA, none⟩) ((lenR l).1) cp), (15, .bool false), (6, .int .i64 ((lenR l).2 : Int)), (5, .int .i64 ((lenR l).1 : Int)), (4, .int .i64 0), (3, .int .i64 0), (2, .pointer (some ⟨g2, 0, none⟩))]) (by kernel_rfl)
                  exact ⟨Ab, cb, g7, HF.sub (by kernel_rfl), HM.picks [1, 0, 2] (by decide) rfl, hcb⟩
                clear HF HM; rintro a w13 ⟨Ab, cb, g7, HF, HM, hcb⟩
                refine wp_seq ?_
                refine wp_seq ?_
                refine from_start ?_
                refine from_pures HF 2 0 (j := 2) [(64, .bool false), (63, .bool true)] (by kernel_rfl) rfl ?_; clear HF; intro a HF
                refine from_done rfl ?_
                replace HF := HF.sub (σ' := [(64, .bool false), (7, .pointer (some ⟨g7, 0, none⟩)), (40, .bool false), (34, .bool false), (26, .bool false), (21, .bool false), (0, .slice (some ⟨gA, oA, none⟩) ((lenR l).1) cp), (15, .bool false), (6, .int .i64 ((lenR l).2 : Int)), (5, .int .i64 ((lenR l).1 : Int)), (4, .int .i64 0), (3, .int .i64 0), (2, .pointer (some ⟨g2, 0, none⟩))]) (by kernel_rfl)
                refine cond_false HF rfl ?_
                refine wp_skip ?_
                refine wp_seq ?_
                refine from_start ?_
                refine from_yl (S := fun wS => Mem w wS _) HF HM (i := 0) rfl rfl (d := 66) rfl (by decide) (v := .agg (b.cells Ab cb)) (Yl.loadS rfl rfl si_bk rfl (fun _ h => range_of_block (h.blk (i := 0) rfl))) ?_; clear HF; intro a HF
                refine from_pures HF 1 1 (j := 2) [(67, .int .i64 ((lenR l).1 : Int))] (by kernel_rfl) rfl ?_; clear HF; intro a HF
                refine from_op HF (i := 2) rfl rfl ?_
                refine e_storeAll HF HM (i := 2) (cs := #[.int .u8 0, .int .u8 0, .int .i64 0, .int .i64 0, .slice none 0 0]) (ds := (b.cells Ab cb)) rfl rfl rfl rfl si_bk rfl rfl (bk_one _ _ _) rfl ?_
                clear HM; intro w16_2 HM
                refine from_pures HF 2 3 (j := 5) [(4, .int .i64 0), (3, .int .i64 ((lenR l).1 : Int))] (by kernel_rfl) rfl ?_; clear HF; intro a HF
                refine from_done rfl ?_
                replace HF := HF.sub (σ' := [(4, .int .i64 0), (3, .int .i64 ((lenR l).1 : Int)), (64, .bool false), (7, .pointer (some ⟨g7, 0, none⟩)), (40, .bool false), (34, .bool false), (26, .bool false), (21, .bool false), (0, .slice (some ⟨gA, oA, none⟩) ((lenR l).1) cp), (15, .bool false), (6, .int .i64 ((lenR l).2 : Int)), (5, .int .i64 ((lenR l).1 : Int)), (2, .pointer (some ⟨g2, 0, none⟩))]) (by kernel_rfl)
                refine wp_ret ?_
                exact ret3 rfl HF (.cellS (i := 2) HF HM rfl rfl si_bk rfl) (.tmp HF rfl) (.tmp HF rfl) (breadIs_ok (readB_some (e := 0) hl0 hLb (by unfold blkOf; rw [if_neg (by rw [hs]; decide), if_neg (fun hh => hh hmg), if_neg (by omega), if_neg (by omega), hp])) (HM.own (i := 1) rfl) hcb HM.below)
          · have HF := HF.as (t := 45) (u := .bool false) rfl (by rw [hb45])
            have hd45 := bne_eq_false_iff_eq.1 hb45
            have hkd : Lb.getD 7 0 = 1 ∨ Lb.getD 7 0 = 2 := by omega
            refine from_pures HF 6 5 (j := 11) [(40, .bool false), (50, .bool false), (49, undef), (48, undef), (47, undef), (46, undef)] (by kernel_rfl) rfl ?_; clear HF; intro a HF
            refine from_done rfl ?_
            replace HF := HF.sub (σ' := [(40, .bool false), (34, .bool false), (26, .bool false), (21, .bool false), (0, .slice (some ⟨gA, oA, none⟩) ((lenR l).1) cp), (15, .bool false), (6, .int .i64 ((lenR l).2 : Int)), (5, .int .i64 ((lenR l).1 : Int)), (4, .int .i64 0), (3, .int .i64 0), (2, .pointer (some ⟨g2, 0, none⟩))]) (by kernel_rfl)
            rcases hp : parseR (Lb.getD 7 0) ((Lb.take (Lb.length - 4)).drop 8) with _ | b
            ·
              refine cond_false HF rfl ?_
              refine wp_skip ?_
              refine cut_seq (fun aS wS => ∃ (cs : Array Value) (g7 : Nat), Fr aS 68 [] [(8, .bool false), (7, .pointer (some ⟨g7, 0, none⟩)), (40, .bool false), (34, .bool false), (26, .bool false), (21, .bool false), (0, .slice (some ⟨gA, oA, none⟩) ((lenR l).1) cp), (15, .bool false), (6, .int .i64 ((lenR l).2 : Int)), (5, .int .i64 ((lenR l).1 : Int)), (4, .int .i64 0), (3, .int .i64 0), (2, .pointer (some ⟨g2, 0, none⟩))] ∧ Mem w wS [.blk g7 cs 37, .blk g2 #[.int .u8 0, .int .u8 0, .int .i64 0, .int .i64 0, .slice none 0 0] 37] ∧ (cs.size = 5) ∧ (∀ v ∈ cs.toList, v.oneCell' = true)) ?_ ?_
              ·
                refine any_start (by kernel_rfl) (fun wS => Mem w wS [.blk g2 #[.int .u8 0, .int .u8 0, .int .i64 0, .int .i64 0, .slice none 0 0] 37]) [12] ?_
                replace HM := HM.drew
                have HS := HM.picks (fs' := [.blk g2 #[.int .u8 0, .int .u8 0, .int .i64 0, .int .i64 0, .slice none 0 0] 37]) [0] (by decide) rfl
                refine any_pures HF (fun _ => HS) (fun _ _ d _ _ h => by cases d <;> exact h) [0, 3, 4] #[true, false, false, true, true, false, false, false, false, false, false, false, false, false] [(57, .int .i64 ((lenR l).1 : Int)), (56, .slice (some ⟨gA, oA, none⟩) ((lenR l).1) cp), (53, .slice (some ⟨gA, oA, none⟩) ((lenR l).1) cp)] (by kernel_rfl) ?_; clear HF; intro a HF
                refine any_yl HF HS (i := 1) rfl rfl (d := 54) rfl (by decide) (by kernel_rfl) (fun _ _ _ h => h) (v := .pointer (some ⟨gA, oA + 7, none⟩)) (Yl.indexAddr (ad := ⟨gA, oA, none⟩) (y := 7) (sz := 1) rfl rfl rfl (by omega) (by kernel_rfl)) ?_; clear HF; intro a HF
                have hx400 := getD_lt hlL (k := 7) (by first | omega | (simp; omega))
                refine any_yl HF HS (i := 2) rfl rfl (d := 55) rfl (by decide) (by kernel_rfl) (fun _ _ _ h => h) (v := .int .u8 ((Lb.getD 7 0) : Int)) (Yl.load1 rfl rfl (by kernel_rfl) (fun _ h => (h.old hrL).oneAt1 (k := 7) (map_at (F := B8) (k := 7) (x := (Lb.getD 7 0)) ((getD_at 0 (k := 7) (by first | omega | (simp; omega))))))) ?_; clear HF; intro a HF
                refine any_pure HF (fun _ => HS) (i := 5) rfl rfl (d := 58) rfl (by decide) (by kernel_rfl) (fun _ _ _ h => h) (v := .int .i64 (IntKind.i64.wrap (((lenR l).1 : Int) - 4))) (fun _ => Yl.pure (by kernel_rfl)) ?_; clear HF; intro a HF
                replace HF := HF.as (t := 58) (u := .int .i64 (((lenR l).1 - 4 : Nat) : Int)) rfl (i64_nat (by omega) (by omega))
                refine any_yl HF HS (i := 6) rfl rfl (d := 59) rfl (by decide) (by kernel_rfl) (fun _ _ _ h => h) (v := .slice (if cp = 8 then some ⟨gA, oA, none⟩ else (some ⟨gA, oA, none⟩ : Option Addr).map (·.add (8 * 1))) (((lenR l).1 - 4) - 8) (cp - 8)) (Yl.slice2 ei_u8 (i := 8) (j := (lenR l).1 - 4) rfl rfl rfl rfl (by omega) (by omega)) ?_; clear HF; intro a HF
                refine any_all [7, 11] (by kernel_rfl) rfl ?_
                refine all_cons ?_ ?_
                · refine any_op HF (i := 7) rfl rfl ?_
                  refine e_call HF (vs := [.int .u8 ((Lb.getD 7 0) : Int), .slice (if cp = 8 then some ⟨gA, oA, none⟩ else (some ⟨gA, oA, none⟩ : Option Addr).map (·.add (8 * 1))) (((lenR l).1 - 4) - 8) (cp - 8)]) rfl (by kernel_rfl) (by kernel_rfl) rfl (by decide) ((parse_any (Lb.getD 7 0) hkd _ (((lenR l).1 - 4) - 8) (cp - 8) ((Lb.take (Lb.length - 4)).drop 8) B _ (hL.mem HM hB) (HM.le hB) (HM.old (by rw [hnL]; exact hrL.midB8 (i := 8) (j := (lenR l).1 - 4) (by omega) (by omega) (by omega))) (by omega) (by rw [List.length_drop, List.length_take]; omega) (by omega) (drop_lt (take_lt hlL _) _)).mono (fun _ _ h => h.none hp)) ?_
                  rintro _ w60 ⟨⟨cs, rfl, hs5, h1⟩, hbw⟩
                  refine ⟨_, rfl, ?_⟩
                  replace HM := HM.call hbw
                  clear HF; intro a HF
                  refine keepS (HM.picks [0] (by decide) rfl) (fun HS => ?_)
                  refine any_pures HF (fun _ => HS) (fun _ _ d _ _ h => by cases d <;> exact h) [8, 9, 10] #[true, true, true, true, true, true, true, true, true, true, true, false, false, false] [(62, .bool false), (61, .agg cs), (52, .tuple #[.agg cs, .bool false])] (by kernel_rfl) ?_; clear HF; intro a HF
                  refine any_all [11] (by kernel_rfl) rfl ?_
                  refine all_cons ?_ all_nil
                  refine any_op HF (i := 11) rfl rfl ?_
                  refine e_alloc HF HM (cs := #[.int .u8 0, .int .u8 0, .int .i64 0, .int .i64 0, .slice none 0 0]) rfl (by kernel_rfl) rfl (by decide) ?_
                  clear HF HM; intro a w7 g7 HF HM
                  refine keepS (HM.picks [1] (by decide) rfl) (fun HS => ?_)
                  refine any_all [12] (by kernel_rfl) rfl ?_
                  refine all_cons ?_ all_nil
                  refine any_op HF (i := 12) rfl rfl ?_
                  refine e_storeAll HF HM (i := 0) (cs := #[.int .u8 0, .int .u8 0, .int .i64 0, .int .i64 0, .slice none 0 0]) (ds := cs) rfl rfl rfl rfl si_bk rfl hs5 (h1) rfl ?_
                  clear HM; intro w13_12 HM
                  refine noS (by kernel_rfl) ?_
                  refine any_pures HF (pastS (by kernel_rfl)) (fun _ _ d _ _ h => by cases d <;> exact h) [13] #[true, true, true, true, true, true, true, true, true, true, true, true, true, true] [(8, .bool false)] (by kernel_rfl) ?_; clear HF; intro a HF
                  refine any_done (by kernel_rfl) ?_
                  replace HF := HF.sub (σ' := [(8, .bool false), (7, .pointer (some ⟨g7, 0, none⟩)), (40, .bool false), (34, .bool false), (26, .bool false), (21, .bool false), (0, .slice (some ⟨gA, oA, none⟩) ((lenR l).1) cp), (15, .bool false), (6, .int .i64 ((lenR l).2 : Int)), (5, .int .i64 ((lenR l).1 : Int)), (4, .int .i64 0), (3, .int .i64 0), (2, .pointer (some ⟨g2, 0, none⟩))]) (by kernel_rfl)
                  exact ⟨cs, g7, HF.sub (by kernel_rfl), HM.picks [0, 1] (by decide) rfl, hs5, h1⟩
                refine all_cons ?_ all_nil
                refine any_op HF (i := 11) rfl rfl ?_
                refine e_alloc HF HM (cs := #[.int .u8 0, .int .u8 0, .int .i64 0, .int .i64 0, .slice none 0 0]) rfl (by kernel_rfl) rfl (by decide) ?_
                clear HF HM; intro a w7 g7 HF HM
                refine keepS (HM.picks [1] (by decide) rfl) (fun HS => ?_)
                refine any_all [7] (by kernel_rfl) rfl ?_
                refine all_cons ?_ all_nil
                refine any_op HF (i := 7) rfl rfl ?_
                refine e_call HF (vs := [.int .u8 ((Lb.getD 7 0) : Int), .slice (if cp = 8 then some ⟨gA, oA, none⟩ else (some ⟨gA, oA, none⟩ : Option Addr).map (·.add (8 * 1))) (((lenR l).1 - 4) - 8) (cp - 8)]) rfl (by kernel_rfl) (by kernel_rfl) rfl (by decide) ((parse_any (Lb.getD 7 0) hkd _ (((lenR l).1 - 4) - 8) (cp - 8) ((Lb.take (Lb.length - 4)).drop 8) B _ (hL.mem HM hB) (HM.le hB) (HM.old (by rw [hnL]; exact hrL.midB8 (i := 8) (j := (lenR l).1 - 4) (by omega) (by omega) (by omega))) (by omega) (by rw [List.length_drop, List.length_take]; omega) (by omega) (drop_lt (take_lt hlL _) _)).mono (fun _ _ h => h.none hp)) ?_
                rintro _ w60 ⟨⟨cs, rfl, hs5, h1⟩, hbw⟩
                refine ⟨_, rfl, ?_⟩
                replace HM := HM.call hbw
                clear HF; intro a HF
                refine keepS (HM.picks [1] (by decide) rfl) (fun HS => ?_)
                refine any_pures HF (fun _ => HS) (fun _ _ d _ _ h => by cases d <;> exact h) [8, 9, 10] #[true, true, true, true, true, true, true, true, true, true, true, true, false, false] [(62, .bool false), (61, .agg cs), (52, .tuple #[.agg cs, .bool false])] (by kernel_rfl) ?_; clear HF; intro a HF
                refine any_all [12] (by kernel_rfl) rfl ?_
                refine all_cons ?_ all_nil
                refine any_op HF (i := 12) rfl rfl ?_
                refine e_storeAll HF HM (i := 0) (cs := #[.int .u8 0, .int .u8 0, .int .i64 0, .int .i64 0, .slice none 0 0]) (ds := cs) rfl rfl rfl rfl si_bk rfl hs5 (h1) rfl ?_
                clear HM; intro w13_12 HM
                refine noS (by kernel_rfl) ?_
                refine any_pures HF (pastS (by kernel_rfl)) (fun _ _ d _ _ h => by cases d <;> exact h) [13] #[true, true, true, true, true, true, true, true, true, true, true, true, true, true] [(8, .bool false)] (by kernel_rfl) ?_; clear HF; intro a HF
                refine any_done (by kernel_rfl) ?_
                replace HF := HF.sub (σ' := [(8, .bool false), (7, .pointer (some ⟨g7, 0, none⟩)), (40, .bool false), (34, .bool false), (26, .bool false), (21, .bool false), (0, .slice (some ⟨gA, oA, none⟩) ((lenR l).1) cp), (15, .bool false), (6, .int .i64 ((lenR l).2 : Int)), (5, .int .i64 ((lenR l).1 : Int)), (4, .int .i64 0), (3, .int .i64 0), (2, .pointer (some ⟨g2, 0, none⟩))]) (by kernel_rfl)
                exact ⟨cs, g7, HF.sub (by kernel_rfl), HM.picks [0, 1] (by decide) rfl, hs5, h1⟩
              clear HF HM; rintro a w13 ⟨cs, g7, HF, HM, hs5, h1⟩
              refine wp_seq ?_
              refine wp_seq ?_
              refine from_start ?_
              refine from_pures HF 2 0 (j := 2) [(64, .bool true), (63, .bool false)] (by kernel_rfl) rfl ?_; clear HF; intro a HF
              refine from_done rfl ?_
              replace HF := HF.sub (σ' := [(64, .bool true), (7, .pointer (some ⟨g7, 0, none⟩)), (40, .bool false), (34, .bool false), (26, .bool false), (21, .bool false), (0, .slice (some ⟨gA, oA, none⟩) ((lenR l).1) cp), (15, .bool false), (6, .int .i64 ((lenR l).2 : Int)), (5, .int .i64 ((lenR l).1 : Int)), (4, .int .i64 0), (3, .int .i64 0), (2, .pointer (some ⟨g2, 0, none⟩))]) (by kernel_rfl)
              refine cond_true HF rfl ?_
              refine wp_seq ?_
              refine from_start ?_
              refine from_yl (S := fun wS => Mem w wS _) HF HM (i := 0) rfl rfl (d := 65) rfl (by decide) (v := .agg #[.int .u8 0, .int .u8 0, .int .i64 0, .int .i64 0, .slice none 0 0]) (Yl.build (vs := []) rfl (by kernel_rfl) (by kernel_rfl)) ?_; clear HF; intro a HF
              refine from_op HF (i := 1) rfl rfl ?_
              refine e_storeAll HF HM (i := 1) (cs := #[.int .u8 0, .int .u8 0, .int .i64 0, .int .i64 0, .slice none 0 0]) (ds := #[.int .u8 0, .int .u8 0, .int .i64 0, .int .i64 0, .slice none 0 0]) rfl rfl rfl rfl si_bk rfl rfl (by simp [Value.oneCell']) rfl ?_
              clear HM; intro w15_1 HM
              refine from_pures HF 2 2 (j := 4) [(4, .int .i64 106), (3, .int .i64 0)] (by kernel_rfl) rfl ?_; clear HF; intro a HF
              refine from_done rfl ?_
              replace HF := HF.sub (σ' := [(4, .int .i64 106), (3, .int .i64 0), (64, .bool true), (7, .pointer (some ⟨g7, 0, none⟩)), (40, .bool false), (34, .bool false), (26, .bool false), (21, .bool false), (0, .slice (some ⟨gA, oA, none⟩) ((lenR l).1) cp), (15, .bool false), (6, .int .i64 ((lenR l).2 : Int)), (5, .int .i64 ((lenR l).1 : Int)), (2, .pointer (some ⟨g2, 0, none⟩))]) (by kernel_rfl)
              refine wp_ret ?_
              exact ret3 rfl HF (.cellS (i := 1) HF HM rfl rfl si_bk rfl) (.tmp HF rfl) (.tmp HF rfl) (breadIs_bad (readB_none hl0 hLb (by unfold blkOf; rw [if_neg (by rw [hs]; decide), if_neg (fun hh => hh hmg), if_neg (by omega), if_neg (by omega), hp])) HM.below)
            ·
              refine cond_false HF rfl ?_
              refine wp_skip ?_
              refine cut_seq (fun aS wS => ∃ (Ab : Option Addr) (cb : Nat) (g7 : Nat), Fr aS 68 [] [(8, .bool true), (7, .pointer (some ⟨g7, 0, none⟩)), (40, .bool false), (34, .bool false), (26, .bool false), (21, .bool false), (0, .slice (some ⟨gA, oA, none⟩) ((lenR l).1) cp), (15, .bool false), (6, .int .i64 ((lenR l).2 : Int)), (5, .int .i64 ((lenR l).1 : Int)), (4, .int .i64 0), (3, .int .i64 0), (2, .pointer (some ⟨g2, 0, none⟩))] ∧ Mem w wS [.blk g7 (b.cells Ab cb) 37, .row (.slice Ab b.evs.length cb) b.evs.length (b.evs.flatMap evL) 55 11, .blk g2 #[.int .u8 0, .int .u8 0, .int .i64 0, .int .i64 0, .slice none 0 0] 37] ∧ (b.evs.length ≤ cb)) ?_ ?_
              ·
                refine any_start (by kernel_rfl) (fun wS => Mem w wS [.blk g2 #[.int .u8 0, .int .u8 0, .int .i64 0, .int .i64 0, .slice none 0 0] 37]) [12] ?_
                replace HM := HM.drew
                have HS := HM.picks (fs' := [.blk g2 #[.int .u8 0, .int .u8 0, .int .i64 0, .int .i64 0, .slice none 0 0] 37]) [0] (by decide) rfl
                refine any_pures HF (fun _ => HS) (fun _ _ d _ _ h => by cases d <;> exact h) [0, 3, 4] #[true, false, false, true, true, false, false, false, false, false, false, false, false, false] [(57, .int .i64 ((lenR l).1 : Int)), (56, .slice (some ⟨gA, oA, none⟩) ((lenR l).1) cp), (53, .slice (some ⟨gA, oA, none⟩) ((lenR l).1) cp)] (by kernel_rfl) ?_; clear HF; intro a HF
                refine any_yl HF HS (i := 1) rfl rfl (d := 54) rfl (by decide) (by kernel_rfl) (fun _ _ _ h => h) (v := .pointer (some ⟨gA, oA + 7, none⟩)) (Yl.indexAddr (ad := ⟨gA, oA, none⟩) (y := 7) (sz := 1) rfl rfl rfl (by omega) (by kernel_rfl)) ?_; clear HF; intro a HF
                have hx485 := getD_lt hlL (k := 7) (by first | omega | (simp; omega))
                refine any_yl HF HS (i := 2) rfl rfl (d := 55) rfl (by decide) (by kernel_rfl) (fun _ _ _ h => h) (v := .int .u8 ((Lb.getD 7 0) : Int)) (Yl.load1 rfl rfl (by kernel_rfl) (fun _ h => (h.old hrL).oneAt1 (k := 7) (map_at (F := B8) (k := 7) (x := (Lb.getD 7 0)) ((getD_at 0 (k := 7) (by first | omega | (simp; omega))))))) ?_; clear HF; intro a HF
                refine any_pure HF (fun _ => HS) (i := 5) rfl rfl (d := 58) rfl (by decide) (by kernel_rfl) (fun _ _ _ h => h) (v := .int .i64 (IntKind.i64.wrap (((lenR l).1 : Int) - 4))) (fun _ => Yl.pure (by kernel_rfl)) ?_; clear HF; intro a HF
                replace HF := HF.as (t := 58) (u := .int .i64 (((lenR l).1 - 4 : Nat) : Int)) rfl (i64_nat (by omega) (by omega))
                refine any_yl HF HS (i := 6) rfl rfl (d := 59) rfl (by decide) (by kernel_rfl) (fun _ _ _ h => h) (v := .slice (if cp = 8 then some ⟨gA, oA, none⟩ else (some ⟨gA, oA, none⟩ : Option Addr).map (·.add (8 * 1))) (((lenR l).1 - 4) - 8) (cp - 8)) (Yl.slice2 ei_u8 (i := 8) (j := (lenR l).1 - 4) rfl rfl rfl rfl (by omega) (by omega)) ?_; clear HF; intro a HF
                refine any_all [7, 11] (by kernel_rfl) rfl ?_
                refine all_cons ?_ ?_
                · refine any_op HF (i := 7) rfl rfl ?_
                  refine e_call HF (vs := [.int .u8 ((Lb.getD 7 0) : Int), .slice (if cp = 8 then some ⟨gA, oA, none⟩ else (some ⟨gA, oA, none⟩ : Option Addr).map (·.add (8 * 1))) (((lenR l).1 - 4) - 8) (cp - 8)]) rfl (by kernel_rfl) (by kernel_rfl) rfl (by decide) ((parse_any (Lb.getD 7 0) hkd _ (((lenR l).1 - 4) - 8) (cp - 8) ((Lb.take (Lb.length - 4)).drop 8) B _ (hL.mem HM hB) (HM.le hB) (HM.old (by rw [hnL]; exact hrL.midB8 (i := 8) (j := (lenR l).1 - 4) (by omega) (by omega) (by omega))) (by omega) (by rw [List.length_drop, List.length_take]; omega) (by omega) (drop_lt (take_lt hlL _) _)).mono (fun _ _ h => h.some hp)) ?_
                  rintro _ w60 ⟨⟨Ab, cb, rfl, ho, hcb⟩, hbw⟩
                  refine ⟨_, rfl, ?_⟩
                  replace HM := HM.callRow hbw ho
                  clear HF; intro a HF
                  refine keepS (HM.picks [1] (by decide) rfl) (fun HS => ?_)
                  refine any_pures HF (fun _ => HS) (fun _ _ d _ _ h => by cases d <;> exact h) [8, 9, 10] #[true, true, true, true, true, true, true, true, true, true, true, false, false, false] [(62, .bool true), (61, .agg (b.cells Ab cb)), (52, .tuple #[.agg (b.cells Ab cb), .bool true])] (by kernel_rfl) ?_; clear HF; intro a HF
                  refine any_all [11] (by kernel_rfl) rfl ?_
                  refine all_cons ?_ all_nil
                  refine any_op HF (i := 11) rfl rfl ?_
                  refine e_alloc HF HM (cs := #[.int .u8 0, .int .u8 0, .int .i64 0, .int .i64 0, .slice none 0 0]) rfl (by kernel_rfl) rfl (by decide) ?_
                  clear HF HM; intro a w7 g7 HF HM
                  refine keepS (HM.picks [2] (by decide) rfl) (fun HS => ?_)
                  refine any_all [12] (by kernel_rfl) rfl ?_
                  refine all_cons ?_ all_nil
                  refine any_op HF (i := 12) rfl rfl ?_
                  refine e_storeAll HF HM (i := 0) (cs := #[.int .u8 0, .int .u8 0, .int .i64 0, .int .i64 0, .slice none 0 0]) (ds := (b.cells Ab cb)) rfl rfl rfl rfl si_bk rfl rfl (bk_one _ _ _) rfl ?_
                  clear HM; intro w13_12 HM
                  refine noS (by kernel_rfl) ?_
                  refine any_pures HF (pastS (by kernel_rfl)) (fun _ _ d _ _ h => by cases d <;> exact h) [13] #[true, true, true, true, true, true, true, true, true, true, true, true, true, true] [(8, .bool true)] (by kernel_rfl) ?_; clear HF; intro a HF
                  refine any_done (by kernel_rfl) ?_
                  replace HF := HF.sub (σ' := [(8, .bool true), (7, .pointer (some ⟨g7, 0, none⟩)), (40, .bool false), (34, .bool false), (26, .bool false), (21, .bool false), (0, .slice (some ⟨gA, oA, none⟩) ((lenR l).1) cp), (15, .bool false), (6, .int .i64 ((lenR l).2 : Int)), (5, .int .i64 ((lenR l).1 : Int)), (4, .int .i64 0), (3, .int .i64 0), (2, .pointer (some ⟨g2, 0, none⟩))]) (by kernel_rfl)
                  exact ⟨Ab, cb, g7, HF.sub (by kernel_rfl), HM.picks [0, 1, 2] (by decide) rfl, hcb⟩
                refine all_cons ?_ all_nil
                refine any_op HF (i := 11) rfl rfl ?_
                refine e_alloc HF HM (cs := #[.int .u8 0, .int .u8 0, .int .i64 0, .int .i64 0, .slice none 0 0]) rfl (by kernel_rfl) rfl (by decide) ?_
                clear HF HM; intro a w7 g7 HF HM
                refine keepS (HM.picks [1] (by decide) rfl) (fun HS => ?_)
                refine any_all [7] (by kernel_rfl) rfl ?_
                refine all_cons ?_ all_nil
                refine any_op HF (i := 7) rfl rfl ?_
                refine e_call HF (vs := [.int .u8 ((Lb.getD 7 0) : Int), .slice (if cp = 8 then some ⟨gA, oA, none⟩ else (some ⟨gA, oA, none⟩ : Option Addr).map (·.add (8 * 1))) (((lenR l).1 - 4) - 8) (cp - 8)]) rfl (by kernel_rfl) (by kernel_rfl) rfl (by decide) ((parse_any (Lb.getD 7 0) hkd _ (((lenR l).1 - 4) - 8) (cp - 8) ((Lb.take (Lb.length - 4)).drop 8) B _ (hL.mem HM hB) (HM.le hB) (HM.old (by rw [hnL]; exact hrL.midB8 (i := 8) (j := (lenR l).1 - 4) (by omega) (by omega) (by omega))) (by omega) (by rw [List.length_drop, List.length_take]; omega) (by omega) (drop_lt (take_lt hlL _) _)).mono (fun _ _ h => h.some hp)) ?_
                rintro _ w60 ⟨⟨Ab, cb, rfl, ho, hcb⟩, hbw⟩
                refine ⟨_, rfl, ?_⟩
                replace HM := HM.callRow hbw ho
                clear HF; intro a HF
                refine keepS (HM.picks [2] (by decide) rfl) (fun HS => ?_)
                refine any_pures HF (fun _ => HS) (fun _ _ d _ _ h => by cases d <;> exact h) [8, 9, 10] #[true, true, true, true, true, true, true, true, true, true, true, true, false, false] [(62, .bool true), (61, .agg (b.cells Ab cb)), (52, .tuple #[.agg (b.cells Ab cb), .bool true])] (by kernel_rfl) ?_; clear HF; intro a HF
                refine any_all [12] (by kernel_rfl) rfl ?_
                refine all_cons ?_ all_nil
                refine any_op HF (i := 12) rfl rfl ?_
                refine e_storeAll HF HM (i := 1) (cs := #[.int .u8 0, .int .u8 0, .int .i64 0, .int .i64 0, .slice none 0 0]) (ds := (b.cells Ab cb)) rfl rfl rfl rfl si_bk rfl rfl (bk_one _ _ _) rfl ?_
                clear HM; intro w13_12 HM
                refine noS (by kernel_rfl) ?_
                refine any_pures HF (pastS (by kernel_rfl)) (fun _ _ d _ _ h => by cases d <;> exact h) [13] #[true, true, true, true, true, true, true, true, true, true, true, true, true, true] [(8, .bool true)] (by kernel_rfl) ?_; clear HF; intro a HF
                refine any_done (by kernel_rfl) ?_
                replace HF := HF.sub (σ' := [(8, .bool true), (7, .pointer (some ⟨g7, 0, none⟩)), (40, .bool false), (34, .bool false), (26, .bool false), (21, .bool false), (0, .slice (some ⟨gA, oA, none⟩) ((lenR l).1) cp), (15, .bool false), (6, .int .i64 ((lenR l).2 : Int)), (5, .int .i64 ((lenR l).1 : Int)), (4, .int .i64 0), (3, .int .i64 0), (2, .pointer (some ⟨g2, 0, none⟩))]) (by kernel_rfl)
                exact ⟨Ab, cb, g7, HF.sub (by kernel_rfl), HM.picks [1, 0, 2] (by decide) rfl, hcb⟩
              clear HF HM; rintro a w13 ⟨Ab, cb, g7, HF, HM, hcb⟩
              refine wp_seq ?_
              refine wp_seq ?_
              refine from_start ?_
              refine from_pures HF 2 0 (j := 2) [(64, .bool false), (63, .bool true)] (by kernel_rfl) rfl ?_; clear HF; intro a HF
              refine from_done rfl ?_
              replace HF := HF.sub (σ' := [(64, .bool false), (7, .pointer (some ⟨g7, 0, none⟩)), (40, .bool false), (34, .bool false), (26, .bool false), (21, .bool false), (0, .slice (some ⟨gA, oA, none⟩) ((lenR l).1) cp), (15, .bool false), (6, .int .i64 ((lenR l).2 : Int)), (5, .int .i64 ((lenR l).1 : Int)), (4, .int .i64 0), (3, .int .i64 0), (2, .pointer (some ⟨g2, 0, none⟩))]) (by kernel_rfl)
              refine cond_false HF rfl ?_
              refine wp_skip ?_
              refine wp_seq ?_
              refine from_start ?_
              refine from_yl (S := fun wS => Mem w wS _) HF HM (i := 0) rfl rfl (d := 66) rfl (by decide) (v := .agg (b.cells Ab cb)) (Yl.loadS rfl rfl si_bk rfl (fun _ h => range_of_block (h.blk (i := 0) rfl))) ?_; clear HF; intro a HF
              refine from_pures HF 1 1 (j := 2) [(67, .int .i64 ((lenR l).1 : Int))] (by kernel_rfl) rfl ?_; clear HF; intro a HF
              refine from_op HF (i := 2) rfl rfl ?_
              refine e_storeAll HF HM (i := 2) (cs := #[.int .u8 0, .int .u8 0, .int .i64 0, .int .i64 0, .slice none 0 0]) (ds := (b.cells Ab cb)) rfl rfl rfl rfl si_bk rfl rfl (bk_one _ _ _) rfl ?_
              clear HM; intro w16_2 HM
              refine from_pures HF 2 3 (j := 5) [(4, .int .i64 0), (3, .int .i64 ((lenR l).1 : Int))] (by kernel_rfl) rfl ?_; clear HF; intro a HF
              refine from_done rfl ?_
              replace HF := HF.sub (σ' := [(4, .int .i64 0), (3, .int .i64 ((lenR l).1 : Int)), (64, .bool false), (7, .pointer (some ⟨g7, 0, none⟩)), (40, .bool false), (34, .bool false), (26, .bool false), (21, .bool false), (0, .slice (some ⟨gA, oA, none⟩) ((lenR l).1) cp), (15, .bool false), (6, .int .i64 ((lenR l).2 : Int)), (5, .int .i64 ((lenR l).1 : Int)), (2, .pointer (some ⟨g2, 0, none⟩))]) (by kernel_rfl)
              refine wp_ret ?_
              exact ret3 rfl HF (.cellS (i := 2) HF HM rfl rfl si_bk rfl) (.tmp HF rfl) (.tmp HF rfl) (breadIs_ok (readB_some (e := 0) hl0 hLb (by unfold blkOf; rw [if_neg (by rw [hs]; decide), if_neg (fun hh => hh hmg), if_neg (by omega), if_neg (by omega), hp])) (HM.own (i := 1) rfl) hcb HM.below)
theorem same_false {b d : Bk} (h : (b.kind : Int) ≠ d.kind ∨ (b.cpu : Int) ≠ d.cpu ∨ b.lost ≠ d.lost ∨ b.next ≠ d.next) : decide (b = d) = false := by
  rw [decide_eq_false]
  rintro rfl
  omega
theorem same_evs {b d : Bk} (h1 : b.kind = d.kind) (h2 : b.cpu = d.cpu) (h3 : b.lost = d.lost) (h4 : b.next = d.next) : decide (b.evs = d.evs) = decide (b = d) := by
  rw [Bool.eq_iff_iff, decide_eq_true_eq, decide_eq_true_eq]
  cases b; cases d
  simp only at h1 h2 h3 h4
  subst h1; subst h2; subst h3; subst h4
  simp
set_option maxRecDepth 100000 in
set_option maxHeartbeats 4000000 in
theorem same_any (b d : Bk) (A A2 : Option Addr) (c c2 : Nat) (w : World) (hr : Rd w w.heap.size 11 A b.evs.length (b.evs.flatMap evL)) (hr2 : Rd w w.heap.size 11 A2 d.evs.length (d.evs.flatMap evL)) (hn : b.evs.length ≤ 1000000) :
    Calls Tryd.prog 20 #[.agg (b.cells A c), .agg (d.cells A2 c2)] w (Is w (.bool (decide (b = d)))) := by
  refine calls_enter (vs := [.agg (b.cells A c), .agg (d.cells A2 c2)]) Tryd.func20 rfl rfl (by kernel_rfl) (σ0 := [(0, .agg (b.cells A c)), (1, .agg (d.cells A2 c2))]) rfl ?_
  intro a HF
  have HM := Mem.start w
  refine wp_seq ?_
  refine from_start ?_
  refine from_op HF (i := 0) rfl rfl ?_
  refine e_box HF HM (cs := (b.cells A c)) rfl rfl rfl rfl (by decide) ?_
  clear HF HM; intro a w2 g2 HF HM
  refine from_op HF (i := 1) rfl rfl ?_
  refine e_box HF HM (cs := (d.cells A2 c2)) rfl rfl rfl rfl (by decide) ?_
  clear HF HM; intro a w3 g3 HF HM
  refine from_pures HF 1 2 (j := 3) [(4, .bool false)] (by kernel_rfl) rfl ?_; clear HF; intro a HF
  refine from_done rfl ?_
  replace HF := HF.sub (σ' := [(4, .bool false), (3, .pointer (some ⟨g3, 0, none⟩)), (2, .pointer (some ⟨g2, 0, none⟩))]) (by kernel_rfl)
  refine wp_seq ?_
  refine from_start ?_
  refine from_pures HF 1 0 (j := 1) [(5, .pointer (some ⟨g2, 0, none⟩))] (by kernel_rfl) rfl ?_; clear HF; intro a HF
  refine from_yl (S := fun wS => Mem w wS _) HF HM (i := 1) rfl rfl (d := 6) rfl (by decide) (v := .int .u8 (b.kind : Int)) (Yl.load1 rfl rfl (by kernel_rfl) (fun _ h => h.cell (i := 1) rfl rfl)) ?_; clear HF; intro a HF
  refine from_pures HF 1 2 (j := 3) [(7, .pointer (some ⟨g3, 0, none⟩))] (by kernel_rfl) rfl ?_; clear HF; intro a HF
  refine from_yl (S := fun wS => Mem w wS _) HF HM (i := 3) rfl rfl (d := 8) rfl (by decide) (v := .int .u8 (d.kind : Int)) (Yl.load1 rfl rfl (by kernel_rfl) (fun _ h => h.cell (i := 0) rfl rfl)) ?_; clear HF; intro a HF
  refine from_pures HF 2 4 (j := 6) [(10, .bool (((b.kind : Int) : Int) == ((d.kind : Int) : Int))), (9, .bool (((b.kind : Int) : Int) == ((d.kind : Int) : Int)))] (by kernel_rfl) rfl ?_; clear HF; intro a HF
  rcases Bool.eq_false_or_eq_true (((b.kind : Int) : Int) == ((d.kind : Int) : Int)) with hb10 | hb10
  · have HF := HF.as (t := 10) (u := .bool true) rfl (by rw [hb10])
    have hd10 := eq_of_beq hb10
    refine from_pures HF 1 6 (j := 7) [(11, .pointer (some ⟨g2, 1, none⟩))] (by kernel_rfl) rfl ?_; clear HF; intro a HF
    refine from_yl (S := fun wS => Mem w wS _) HF HM (i := 7) rfl rfl (d := 12) rfl (by decide) (v := .int .u8 (b.cpu : Int)) (Yl.load1 rfl rfl (by kernel_rfl) (fun _ h => h.cell (i := 1) rfl rfl)) ?_; clear HF; intro a HF
    refine from_pures HF 1 8 (j := 9) [(13, .pointer (some ⟨g3, 1, none⟩))] (by kernel_rfl) rfl ?_; clear HF; intro a HF
    refine from_yl (S := fun wS => Mem w wS _) HF HM (i := 9) rfl rfl (d := 14) rfl (by decide) (v := .int .u8 (d.cpu : Int)) (Yl.load1 rfl rfl (by kernel_rfl) (fun _ h => h.cell (i := 0) rfl rfl)) ?_; clear HF; intro a HF
    refine from_pures HF 3 10 (j := 13) [(17, .bool (((b.cpu : Int) : Int) == ((d.cpu : Int) : Int))), (16, .bool (((b.cpu : Int) : Int) == ((d.cpu : Int) : Int))), (15, .bool (((b.cpu : Int) : Int) == ((d.cpu : Int) : Int)))] (by kernel_rfl) rfl ?_; clear HF; intro a HF
    rcases Bool.eq_false_or_eq_true (((b.cpu : Int) : Int) == ((d.cpu : Int) : Int)) with hb17 | hb17
    · have HF := HF.as (t := 17) (u := .bool true) rfl (by rw [hb17])
      have hd17 := eq_of_beq hb17
      refine from_pures HF 1 13 (j := 14) [(18, .pointer (some ⟨g2, 2, none⟩))] (by kernel_rfl) rfl ?_; clear HF; intro a HF
      refine from_yl (S := fun wS => Mem w wS _) HF HM (i := 14) rfl rfl (d := 19) rfl (by decide) (v := .int .i64 b.lost) (Yl.load1 rfl rfl (by kernel_rfl) (fun _ h => h.cell (i := 1) rfl rfl)) ?_; clear HF; intro a HF
      refine from_pures HF 1 15 (j := 16) [(20, .pointer (some ⟨g3, 2, none⟩))] (by kernel_rfl) rfl ?_; clear HF; intro a HF
      refine from_yl (S := fun wS => Mem w wS _) HF HM (i := 16) rfl rfl (d := 21) rfl (by decide) (v := .int .i64 d.lost) (Yl.load1 rfl rfl (by kernel_rfl) (fun _ h => h.cell (i := 0) rfl rfl)) ?_; clear HF; intro a HF
      refine from_pures HF 3 17 (j := 20) [(24, .bool ((b.lost : Int) == (d.lost : Int))), (23, .bool ((b.lost : Int) == (d.lost : Int))), (22, .bool ((b.lost : Int) == (d.lost : Int)))] (by kernel_rfl) rfl ?_; clear HF; intro a HF
      rcases Bool.eq_false_or_eq_true ((b.lost : Int) == (d.lost : Int)) with hb24 | hb24
      · have HF := HF.as (t := 24) (u := .bool true) rfl (by rw [hb24])
        have hd24 := eq_of_beq hb24
        refine from_pures HF 1 20 (j := 21) [(25, .pointer (some ⟨g2, 3, none⟩))] (by kernel_rfl) rfl ?_; clear HF; intro a HF
        refine from_yl (S := fun wS => Mem w wS _) HF HM (i := 21) rfl rfl (d := 26) rfl (by decide) (v := .int .i64 b.next) (Yl.load1 rfl rfl (by kernel_rfl) (fun _ h => h.cell (i := 1) rfl rfl)) ?_; clear HF; intro a HF
        refine from_pures HF 1 22 (j := 23) [(27, .pointer (some ⟨g3, 3, none⟩))] (by kernel_rfl) rfl ?_; clear HF; intro a HF
        refine from_yl (S := fun wS => Mem w wS _) HF HM (i := 23) rfl rfl (d := 28) rfl (by decide) (v := .int .i64 d.next) (Yl.load1 rfl rfl (by kernel_rfl) (fun _ h => h.cell (i := 0) rfl rfl)) ?_; clear HF; intro a HF
        refine from_pures HF 3 24 (j := 27) [(31, .bool ((b.next : Int) == (d.next : Int))), (30, .bool ((b.next : Int) == (d.next : Int))), (29, .bool ((b.next : Int) == (d.next : Int)))] (by kernel_rfl) rfl ?_; clear HF; intro a HF
        rcases Bool.eq_false_or_eq_true ((b.next : Int) == (d.next : Int)) with hb31 | hb31
        · have HF := HF.as (t := 31) (u := .bool true) rfl (by rw [hb31])
          have hd31 := eq_of_beq hb31
          refine from_pures HF 1 27 (j := 28) [(32, .pointer (some ⟨g2, 4, none⟩))] (by kernel_rfl) rfl ?_; clear HF; intro a HF
          refine from_yl (S := fun wS => Mem w wS _) HF HM (i := 28) rfl rfl (d := 33) rfl (by decide) (v := .slice A b.evs.length c) (Yl.load1 rfl rfl (by kernel_rfl) (fun _ h => h.cell (i := 1) rfl rfl)) ?_; clear HF; intro a HF
          refine from_pures HF 1 29 (j := 30) [(34, .pointer (some ⟨g3, 4, none⟩))] (by kernel_rfl) rfl ?_; clear HF; intro a HF
          refine from_yl (S := fun wS => Mem w wS _) HF HM (i := 30) rfl rfl (d := 35) rfl (by decide) (v := .slice A2 d.evs.length c2) (Yl.load1 rfl rfl (by kernel_rfl) (fun _ h => h.cell (i := 0) rfl rfl)) ?_; clear HF; intro a HF
          refine from_op HF (i := 31) rfl rfl ?_
          refine e_call HF (vs := [.slice A b.evs.length c, .slice A2 d.evs.length c2]) rfl (by kernel_rfl) (by kernel_rfl) rfl (by decide) (equal_any _ _ _ _ _ _ b.evs d.evs _ (HM.old hr) (HM.old hr2) rfl rfl (by omega)) ?_
          rintro _ w36 ⟨rfl, hbw⟩
          refine ⟨_, rfl, ?_⟩
          replace HM := HM.call hbw
          clear HF; intro a HF
          refine from_pures HF 2 32 (j := 34) [(4, .bool (decide (b.evs = d.evs))), (37, .bool (decide (b.evs = d.evs)))] (by kernel_rfl) rfl ?_; clear HF; intro a HF
          refine from_done rfl ?_
          replace HF := HF.sub (σ' := [(4, .bool (decide (b.evs = d.evs)))]) (by kernel_rfl)
          replace HM := HM.picks (fs' := []) [] (by decide) rfl
          refine wp_ret ?_
          exact ret1 rfl HF (.tmp HF rfl) (⟨by rw [same_evs (by omega) (by omega) (by omega) (by omega)], HM.below⟩)
        · have HF := HF.as (t := 31) (u := .bool false) rfl (by rw [hb31])
          have hd31 := ne_of_beq_false hb31
          refine from_pures HF 7 27 (j := 34) [(4, .bool false), (37, .bool false), (36, undef), (35, undef), (34, undef), (33, undef), (32, undef)] (by kernel_rfl) rfl ?_; clear HF; intro a HF
          refine from_done rfl ?_
          replace HF := HF.sub (σ' := [(4, .bool false)]) (by kernel_rfl)
          replace HM := HM.picks (fs' := []) [] (by decide) rfl
          refine wp_ret ?_
          exact ret1 rfl HF (.tmp HF rfl) (⟨by rw [same_false (by omega)], HM.below⟩)
      · have HF := HF.as (t := 24) (u := .bool false) rfl (by rw [hb24])
        have hd24 := ne_of_beq_false hb24
        refine from_pures HF 14 20 (j := 34) [(4, .bool false), (37, .bool false), (36, undef), (35, undef), (34, undef), (33, undef), (32, undef), (31, .bool false), (30, .bool false), (29, undef), (28, undef), (27, undef), (26, undef), (25, undef)] (by kernel_rfl) rfl ?_; clear HF; intro a HF
        refine from_done rfl ?_
        replace HF := HF.sub (σ' := [(4, .bool false)]) (by kernel_rfl)
        replace HM := HM.picks (fs' := []) [] (by decide) rfl
        refine wp_ret ?_
        exact ret1 rfl HF (.tmp HF rfl) (⟨by rw [same_false (by omega)], HM.below⟩)
    · have HF := HF.as (t := 17) (u := .bool false) rfl (by rw [hb17])
      have hd17 := ne_of_beq_false hb17
      refine from_pures HF 21 13 (j := 34) [(4, .bool false), (37, .bool false), (36, undef), (35, undef), (34, undef), (33, undef), (32, undef), (31, .bool false), (30, .bool false), (29, undef), (28, undef), (27, undef), (26, undef), (25, undef), (24, .bool false), (23, .bool false), (22, undef), (21, undef), (20, undef), (19, undef), (18, undef)] (by kernel_rfl) rfl ?_; clear HF; intro a HF
      refine from_done rfl ?_
      replace HF := HF.sub (σ' := [(4, .bool false)]) (by kernel_rfl)
      replace HM := HM.picks (fs' := []) [] (by decide) rfl
      refine wp_ret ?_
      exact ret1 rfl HF (.tmp HF rfl) (⟨by rw [same_false (by omega)], HM.below⟩)
  · have HF := HF.as (t := 10) (u := .bool false) rfl (by rw [hb10])
    have hd10 := ne_of_beq_false hb10
    refine from_pures HF 28 6 (j := 34) [(4, .bool false), (37, .bool false), (36, undef), (35, undef), (34, undef), (33, undef), (32, undef), (31, .bool false), (30, .bool false), (29, undef), (28, undef), (27, undef), (26, undef), (25, undef), (24, .bool false), (23, .bool false), (22, undef), (21, undef), (20, undef), (19, undef), (18, undef), (17, .bool false), (16, .bool false), (15, undef), (14, undef), (13, undef), (12, undef), (11, undef)] (by kernel_rfl) rfl ?_; clear HF; intro a HF
    refine from_done rfl ?_
    replace HF := HF.sub (σ' := [(4, .bool false)]) (by kernel_rfl)
    replace HM := HM.picks (fs' := []) [] (by decide) rfl
    refine wp_ret ?_
    exact ret1 rfl HF (.tmp HF rfl) (⟨by rw [same_false (by omega)], HM.below⟩)
end Go.Proofs.YtjpielapplglmaaDoor

/- Blocks: contracts in the form that the laws take; the examples. -/
namespace Go.Proofs.YtjpielapplglmaaDoor
open Go.RowKit

theorem BytesIs.as {w w' : World} {er er' : Nat} {R R' : List Nat} {r : Ending} (h : BytesIs w er R r w') (h1 : er = er') (h2 : R = R') : BytesIs w er' R' r w' := by subst h1; subst h2; exact h
theorem bwrite_is (b : Bk) (hok : b.Ok) (A : Option Addr) (c B : Nat) (w : World) (hL : LaidX B w) (hB : B ≤ w.heap.size) (hr : Rd w w.heap.size 11 A b.evs.length (b.evs.flatMap evL)) (hn : b.evs.length ≤ 1000000) {er : Nat} {R : List Nat} (h1 : b.err = er) (h2 : b.out = R) : Calls Tryd.prog 14 #[.agg (b.cells A c)] w (BytesIs w er R) :=
  (bwrite_any b hok A c B w hL hB hr hn).mono fun _ _ h => h.as h1 h2
theorem bsize_is (b : Bk) (hok : b.Ok) (A : Option Addr) (c B : Nat) (w : World) (hL : LaidX B w) (hB : B ≤ w.heap.size) (hr : Rd w w.heap.size 11 A b.evs.length (b.evs.flatMap evL)) (hn : b.evs.length ≤ 1000000) {er n : Nat} (h1 : b.err = er) (h2 : b.out.length = n) : Calls Tryd.prog 18 #[.agg (b.cells A c)] w (Is w (.tuple #[.int .i64 (n : Int), .int .i64 (er : Int)])) :=
  (bsize_any b hok A c B w hL hB hr hn).mono fun _ _ h => by rw [h1, h2] at h; exact h
theorem bcheck_is (b : Bk) (hok : b.Ok) (A : Option Addr) (c B : Nat) (w : World) (hL : LaidX B w) (hB : B ≤ w.heap.size) (hr : Rd w w.heap.size 11 A b.evs.length (b.evs.flatMap evL)) (hn : b.evs.length ≤ 1000000) {er : Nat} (h1 : b.err = er) : Calls Tryd.prog 19 #[.agg (b.cells A c)] w (Is w (.int .i64 (er : Int))) :=
  (bcheck_any b hok A c B w hL hB hr hn).mono fun _ _ h => by rw [h1] at h; exact h
theorem bread_is (A : Option Addr) (n cp : Nat) (l : List Nat) (B : Nat) (w : World) (hL : LaidX B w) (hB : B ≤ w.heap.size) (hr : Rd w w.heap.size 1 A n (l.map B8)) (hc : n ≤ cp) (hln : l.length = n) (hn : n ≤ 9223372036854775807) (hl : ∀ b ∈ l, b < 256) {b : Bk} {m er : Nat} (h : readB l = (b, m, er)) :
    Calls Tryd.prog 16 #[.slice A n cp] w fun r w' => (∃ A c, r = .returned (.tuple #[.agg (b.cells A c), .int .i64 (m : Int), .int .i64 (er : Int)]) ∧ w'.ownsRow w.heap.size 55 11 (.slice A b.evs.length c) b.evs.length (b.evs.flatMap evL) ∧ b.evs.length ≤ c) ∧ Below w.heap.size w w' :=
  (bread_any A n cp l B w hL hB hr hc hln hn hl).mono fun _ _ hh => by rw [h] at hh; exact hh
theorem length_is (A : Option Addr) (n cp : Nat) (l : List Nat) (w : World) (hr : Rd w w.heap.size 1 A n (l.map B8)) (hln : l.length = n) (hn : n ≤ 9223372036854775807) (hl : ∀ b ∈ l, b < 256) {m er : Nat} (h : lenR l = (m, er)) :
    Calls Tryd.prog 17 #[.slice A n cp] w (Is w (.tuple #[.int .i64 (m : Int), .int .i64 (er : Int)])) :=
  (length_any A n cp l w hr hln hn hl).mono fun _ _ hh => by rw [h] at hh; exact hh
theorem str_lit {l : List Nat} {d : Array UInt8} (h : (l.map fun b => UInt8.ofNat b).toArray = d) : ((bstr l).toList == (ByteArray.mk d).toList) = true := by subst h; unfold bstr; simp
theorem bstr_ne {l m : List Nat} (hl : ∀ b ∈ l, b < 256) (hm : ∀ b ∈ m, b < 256) : ((bstr l).toList == (bstr m).toList) = decide (l = m) := by
  rw [Bool.eq_iff_iff, beq_iff_eq, decide_eq_true_eq]
  constructor
  · intro h
    refine bstr_inj hl hm ?_
    rw [ByteArray.toList_eq, ByteArray.toList_eq] at h
    cases hx : bstr l; cases hy : bstr m
    rw [hx, hy] at h
    simpa using h
  · rintro rfl; rfl
def tickE : Ev := { Ev.zero with seq := 5, time := 340, cpu := 2, kind := 5, ticks := 40, got := 7 }
def awX : List Nat := [13, 0, 0, 0, 113, 116, 1, 2, 7, 91, 144, 57, 154]
def awY : List Nat := [23, 0, 0, 0, 113, 116, 1, 1, 2, 0, 1, 5, 212, 2, 5, 0, 0, 40, 7, 28, 64, 73, 151]
def awZ : List Nat := [13, 0, 0, 0, 113, 116, 1, 2, 6, 91, 144, 57, 154]
theorem zeroOk : Bk.Ok Bk.zero := ⟨by decide, by decide, by unfold I64; decide, by unfold I64; decide, by intro e he; cases he⟩
theorem numOk (k c : Nat) (lo nx : Int) (hk : k < 256) (hc : c < 256) (hl : I64 lo) (hn : I64 nx) : Bk.Ok ⟨k, c, lo, nx, []⟩ := ⟨hk, hc, hl, hn, by intro e he; cases he⟩
theorem tickOk : tickE.Ok := ⟨⟨by decide, by decide⟩, ⟨by decide, by decide⟩, by decide, by decide, ⟨by decide, by decide⟩, ⟨by decide, by decide⟩, ⟨by decide, by decide⟩, ⟨by decide, by decide⟩, ⟨by decide, by decide⟩, by decide, ⟨by decide, by decide⟩⟩
theorem oneOk {k c : Nat} {lo nx : Int} {e : Ev} (hk : k < 256) (hc : c < 256) (hl : I64 lo) (hn : I64 nx) (he : e.Ok) : Bk.Ok ⟨k, c, lo, nx, [e]⟩ := ⟨hk, hc, hl, hn, by intro x hx; simp at hx; subst hx; exact he⟩
theorem ba1 : Bk.err ⟨2, 0, 0, 7, []⟩ = 0 ∧ Bk.out ⟨2, 0, 0, 7, []⟩ = awX := by decide +kernel
theorem ba2 : Bk.err ⟨1, 2, 0, 0, [tickE]⟩ = 0 ∧ Bk.out ⟨1, 2, 0, 0, [tickE]⟩ = awY := by decide +kernel
theorem ba3 : Bk.err ⟨1, 2, 3, 0, []⟩ = 0 ∧ (Bk.out ⟨1, 2, 3, 0, []⟩).length = 15 := by decide +kernel
theorem ba4 : readB awX = (⟨2, 0, 0, 7, []⟩, 13, 0) := by decide +kernel
theorem ba5 : readB awZ = (Bk.zero, 0, 102) := by decide +kernel
theorem ba6 : readB (awZ.take 4) = (Bk.zero, 0, 100) := by decide +kernel
theorem ba7 : lenR [12, 0, 0, 0] = (0, 101) := by decide +kernel
theorem ba8 : Bk.err ⟨1, 2, 0, 0, []⟩ = 107 := by decide +kernel
theorem ba9 : Bk.err ⟨2, 0, 0, 0, []⟩ = 107 := by decide +kernel
theorem awX_lt : ∀ b ∈ awX, b < 256 := by decide
theorem awZ_lt : ∀ b ∈ awZ, b < 256 := by decide
end Go.Proofs.YtjpielapplglmaaDoor

/- How many events of a block fit into one: plain. -/
namespace Go.Proofs.YtjpielapplglmaaDoor
open Go.RowKit

def atOf (b : Bs) (l : List Ev) : Nat → Bs
  | 0 => b
  | k + 1 => (l.getD k Ev.zero).at
theorem recs_take : ∀ (l : List Ev) (b : Bs) (k : Nat), k < l.length → recs b (l.take (k + 1)) = recs b (l.take k) ++ recBytes (atOf b l k) (l.getD k Ev.zero)
  | [], _, _, h => by simp at h
  | e :: r, b, 0, _ => by simp [recs, atOf]
  | e :: r, b, k + 1, h => by
    have h' : k < r.length := by simpa using h
    have ih := recs_take r e.at k h'
    rw [List.take_succ_cons, List.take_succ_cons, recs, recs, ih, List.append_assoc]
    congr 2
    cases k with
    | zero => rfl
    | succ k => rfl
theorem chain_fit {cpu : Nat} : ∀ (l : List Ev) (p : Option Ev) (b : Bs) (k : Nat), Chain cpu p b l → k < l.length → Fit (atOf b l k) (l.getD k Ev.zero)
  | [], _, _, _, _, h => by simp at h
  | e :: r, p, b, 0, hc, _ => hc.1
  | e :: r, p, b, k + 1, hc, h => by
    have h' : k < r.length := by simpa using h
    have ih := chain_fit r (some e) e.at k hc.2.2.2 h'
    cases k with
    | zero => exact ih
    | succ k => exact ih
theorem fit_put {b : Bs} {e : Ev} (h : Fit b e) : putErr b e = 0 ∧ putOut b e = recBytes b e := by
  have h1 : putErr b e = 0 := by
    unfold putErr
    rw [if_neg (by have := h.check; omega), if_pos ⟨h.right, h.behind⟩]
  exact ⟨h1, by unfold putOut; rw [if_pos h1]⟩
def Bk.atK (b : Bk) (k : Nat) : Bs := atOf b.base b.evs k
def Bk.sz (b : Bk) (k : Nat) : Nat := 12 + (vbytes b.cpu).length + (vbytes b.lost.toNat).length + (vbytes b.base.seq.toNat).length + (vbytes b.base.time.toNat).length + (recs b.base (b.evs.take k)).length
def Bk.big (b : Bk) (k : Nat) : Bool := decide (4096 < b.sz k + (vbytes k).length)
def Bk.fillN (b : Bk) : Nat := ((List.range b.evs.length).find? fun i => b.big (i + 1)).getD b.evs.length
def Bk.fill (b : Bk) : Nat × Nat := if b.fits = false then (0, 107) else (b.fillN, 0)
theorem sz_le (b : Bk) (k : Nat) : b.sz k ≤ 52 + 61 * k := by
  unfold Bk.sz
  have h1 := vbytes_length b.cpu
  have h2 := vbytes_length b.lost.toNat
  have h4 := vbytes_length b.base.seq.toNat
  have h5 := vbytes_length b.base.time.toNat
  have h6 := recsLenB (b.evs.take k) b.base
  rw [List.length_take] at h6
  have : min k b.evs.length ≤ k := Nat.min_le_left _ _
  have h7 : 61 * min k b.evs.length ≤ 61 * k := Nat.mul_le_mul_left _ this
  omega
theorem sz_zero (b : Bk) : b.sz 0 = 8 + ([b.cpu, b.lost.toNat, b.base.seq.toNat, b.base.time.toNat].flatMap vbytes).length + 4 := by
  unfold Bk.sz
  simp [recs]
  omega
theorem sz_succ {b : Bk} {k : Nat} (h : k < b.evs.length) : b.sz (k + 1) = b.sz k + (recBytes (b.atK k) (b.evs.getD k Ev.zero)).length := by
  unfold Bk.sz Bk.atK
  rw [recs_take _ _ _ h, List.length_append]
  omega
theorem fillN_at {b : Bk} {k : Nat} (hk : k < b.evs.length) (hno : ∀ i, i < k → b.big (i + 1) = false) (h : b.big (k + 1) = true) : b.fillN = k := by
  unfold Bk.fillN
  have : (List.range b.evs.length).find? (fun i => b.big (i + 1)) = some k := by
    rw [List.find?_eq_some_iff_append]
    refine ⟨h, List.range k, List.range' (k + 1) (b.evs.length - k - 1), ?_, ?_⟩
    · rw [List.range_eq_range', List.range_eq_range']
      have e1 : b.evs.length = k + (b.evs.length - k) := by omega
      have e2 : b.evs.length - k = (b.evs.length - k - 1) + 1 := by omega
      conv => lhs; rw [e1, ← List.range'_append_1, e2, List.range'_succ]
      simp
    · intro i hi
      have := hno i (List.mem_range.1 hi)
      simp [this]
  rw [this]
  rfl
theorem fillN_all {b : Bk} (hno : ∀ i, i < b.evs.length → b.big (i + 1) = false) : b.fillN = b.evs.length := by
  unfold Bk.fillN
  have : (List.range b.evs.length).find? (fun i => b.big (i + 1)) = none := by
    rw [List.find?_eq_none]
    intro i hi
    have := hno i (List.mem_range.1 hi)
    simp [this]
  rw [this]
  rfl
theorem fill_is {w w' : World} {b : Bk} {n e : Nat} (h : b.fill = (n, e)) (hb : Below w.heap.size w w') : Is w (.tuple #[.int .i64 (b.fill.1 : Int), .int .i64 (b.fill.2 : Int)]) (.returned (.tuple #[.int .i64 (n : Int), .int .i64 (e : Int)])) w' := by rw [h]; exact ⟨rfl, hb⟩
theorem fillN_le (b : Bk) : b.fillN ≤ b.evs.length := by
  unfold Bk.fillN
  cases h : (List.range b.evs.length).find? fun i => b.big (i + 1) with
  | none => exact Nat.le_refl _
  | some k =>
    have := List.mem_range.1 (List.mem_of_find?_eq_some h)
    show k ≤ _
    omega
end Go.Proofs.YtjpielapplglmaaDoor

/- quantumlaw10: tick, awake: the walks. -/
set_option linter.all false
namespace Go.Proofs.YtjpielapplglmaaDoor
open Go.RowKit
set_option maxRecDepth 100000 in
set_option maxHeartbeats 4000000 in
theorem tick_any (w : World) : Calls Tryd.prog 31 #[] w (Is w (.agg tickE.cells)) := by
  refine calls_enter (vs := []) Tryd.func31 rfl rfl (by kernel_rfl) (σ0 := []) rfl ?_
  intro a HF
  have HM := Mem.start w
  refine wp_seq ?_
  refine from_start ?_
  refine from_op HF (i := 0) rfl rfl ?_
  refine e_alloc HF HM (cs := #[.int .i64 0, .int .i64 0, .int .u8 0, .int .u8 0, .int .i64 0, .int .i64 0, .int .i64 0, .int .i64 0, .int .i64 0, .int .u64 0, .int .i64 0]) rfl (by kernel_rfl) rfl (by decide) ?_
  clear HF HM; intro a w0 g0 HF HM
  refine from_done rfl ?_
  refine wp_seq ?_
  refine from_start ?_
  refine from_yl (S := fun wS => Mem w wS _) HF HM (i := 0) rfl rfl (d := 1) rfl (by decide) (v := .agg #[.int .i64 5, .int .i64 340, .int .u8 2, .int .u8 5, .int .i64 0, .int .i64 0, .int .i64 0, .int .i64 0, .int .i64 40, .int .u64 0, .int .i64 7]) (Yl.build (vs := [(0, .int .i64 5), (1, .int .i64 340), (2, .int .u8 2), (3, .int .u8 5), (8, .int .i64 40), (10, .int .i64 7)]) rfl (by kernel_rfl) (by kernel_rfl)) ?_; clear HF; intro a HF
  refine from_op HF (i := 1) rfl rfl ?_
  refine e_storeAll HF HM (i := 0) (cs := #[.int .i64 0, .int .i64 0, .int .u8 0, .int .u8 0, .int .i64 0, .int .i64 0, .int .i64 0, .int .i64 0, .int .i64 0, .int .u64 0, .int .i64 0]) (ds := #[.int .i64 5, .int .i64 340, .int .u8 2, .int .u8 5, .int .i64 0, .int .i64 0, .int .i64 0, .int .i64 0, .int .i64 40, .int .u64 0, .int .i64 7]) rfl rfl rfl rfl ⟨(by kernel_rfl), (by kernel_rfl)⟩ rfl rfl (by simp [Value.oneCell']) rfl ?_
  clear HM; intro w1_1 HM
  refine from_done rfl ?_
  replace HF := HF.sub (σ' := [(0, .pointer (some ⟨g0, 0, none⟩))]) (by kernel_rfl)
  refine wp_ret ?_
  exact ret1 rfl HF (.cellS (i := 0) HF HM rfl rfl ⟨(by kernel_rfl), (by kernel_rfl)⟩ rfl) (⟨rfl, HM.below⟩)
set_option maxRecDepth 100000 in
set_option maxHeartbeats 4000000 in
theorem bawake_any (B : Nat) (w : World) (hL : LaidX B w) (hB : B ≤ w.heap.size) : Calls Tryd.prog 13 #[] w (Is w (.bool true)) := by
  refine calls_enter (vs := []) Tryd.func13 rfl rfl (by kernel_rfl) (σ0 := []) rfl ?_
  intro a HF
  have HM := Mem.start w
  refine wp_seq ?_
  refine from_start ?_
  refine from_pures HF 1 0 (j := 1) [(0, .bool false)] (by kernel_rfl) rfl ?_; clear HF; intro a HF
  refine from_done rfl ?_
  refine wp_seq ?_
  refine from_start ?_
  refine from_yl (S := fun wS => Mem w wS _) HF HM (i := 0) rfl rfl (d := 19) rfl (by decide) (v := .agg #[.int .u8 2, .int .u8 0, .int .i64 0, .int .i64 7, .slice none 0 0]) (Yl.build (vs := [(0, .int .u8 2), (3, .int .i64 7)]) rfl (by kernel_rfl) (by kernel_rfl)) ?_; clear HF; intro a HF
  refine from_op HF (i := 1) rfl rfl ?_
  refine e_call HF (vs := [.agg #[.int .u8 2, .int .u8 0, .int .i64 0, .int .i64 7, .slice none 0 0]]) rfl (by kernel_rfl) (by kernel_rfl) rfl (by decide) (bwrite_is (⟨2, 0, 0, 7, []⟩ : Bk) (numOk 2 0 0 7 (by decide) (by decide) (by unfold I64; decide) (by unfold I64; decide)) none 0 B _ (hL.mem HM hB) (HM.le hB) (Rd.nil) (by decide) (ba1.1) (ba1.2)) ?_
  rintro _ w20 ⟨⟨A20, c20, rfl, ho, hc20⟩, hbw⟩
  refine ⟨_, rfl, ?_⟩
  replace HM := HM.callRow hbw ho
  clear HF; intro a HF
  have hcn20 : 13 ≤ c20 := hc20
  refine from_pures HF 5 2 (j := 7) [(2, .int .i64 0), (1, .slice A20 13 c20), (22, .int .i64 0), (21, .slice A20 13 c20), (18, .tuple #[.slice A20 13 c20, .int .i64 0])] (by kernel_rfl) rfl ?_; clear HF; intro a HF
  refine from_done rfl ?_
  replace HF := HF.sub (σ' := [(2, .int .i64 0), (1, .slice A20 13 c20), (0, .bool false)]) (by kernel_rfl)
  refine wp_seq ?_
  refine from_start ?_
  refine from_op HF (i := 0) rfl rfl ?_
  refine e_call HF (vs := []) rfl (by kernel_rfl) (by kernel_rfl) rfl (by decide) (tick_any _) ?_
  rintro _ w24 ⟨rfl, hbw⟩
  refine ⟨_, rfl, ?_⟩
  replace HM := HM.call hbw
  clear HF; intro a HF
  refine from_op HF (i := 1) rfl rfl ?_
  refine e_slice HF HM (vs := [(0, .agg #[.int .i64 5, .int .i64 340, .int .u8 2, .int .u8 5, .int .i64 0, .int .i64 0, .int .i64 0, .int .i64 0, .int .i64 40, .int .u64 0, .int .i64 7])]) (cs := #[.int .i64 5, .int .i64 340, .int .u8 2, .int .u8 5, .int .i64 0, .int .i64 0, .int .i64 0, .int .i64 0, .int .i64 40, .int .u64 0, .int .i64 7]) rfl ei_ev (by decide) rfl (by kernel_rfl) rfl (by decide) ?_
  clear HF HM; intro a w25 g25 HF HM
  refine from_yl (S := fun wS => Mem w wS _) HF HM (i := 2) rfl rfl (d := 26) rfl (by decide) (v := .agg #[.int .u8 1, .int .u8 2, .int .i64 0, .int .i64 0, .slice (some ⟨g25, 0, none⟩) 1 1]) (Yl.build (vs := [(0, .int .u8 1), (1, .int .u8 2), (4, .slice (some ⟨g25, 0, none⟩) 1 1)]) rfl (by kernel_rfl) (by kernel_rfl)) ?_; clear HF; intro a HF
  refine from_op HF (i := 3) rfl rfl ?_
  refine e_call HF (vs := [.agg #[.int .u8 1, .int .u8 2, .int .i64 0, .int .i64 0, .slice (some ⟨g25, 0, none⟩) 1 1]]) rfl (by kernel_rfl) (by kernel_rfl) rfl (by decide) (bwrite_is (⟨1, 2, 0, 0, [tickE]⟩ : Bk) (oneOk (by decide) (by decide) (by unfold I64; decide) (by unfold I64; decide) tickOk) (some ⟨g25, 0, none⟩) 1 B _ (hL.mem HM hB) (HM.le hB) (HM.rdBlk (i := 0) (n := 1) (size := 11) rfl rfl) (by decide) (ba2.1) (ba2.2)) ?_
  rintro _ w27 ⟨⟨A27, c27, rfl, ho, hc27⟩, hbw⟩
  refine ⟨_, rfl, ?_⟩
  replace HM := HM.callRow hbw ho
  clear HF; intro a HF
  have hcn27 : 23 ≤ c27 := hc27
  refine from_pures HF 5 4 (j := 9) [(4, .int .i64 0), (3, .slice A27 23 c27), (29, .int .i64 0), (28, .slice A27 23 c27), (23, .tuple #[.slice A27 23 c27, .int .i64 0])] (by kernel_rfl) rfl ?_; clear HF; intro a HF
  refine from_done rfl ?_
  replace HF := HF.sub (σ' := [(4, .int .i64 0), (3, .slice A27 23 c27), (2, .int .i64 0), (1, .slice A20 13 c20), (0, .bool false)]) (by kernel_rfl)
  replace HM := HM.picks (fs' := [.row (.slice A27 23 c27) 23 (awY.map B8) 5 1, .row (.slice A20 13 c20) 13 (awX.map B8) 5 1]) [0, 2] (by decide) rfl
  refine wp_seq ?_
  refine from_start ?_
  refine from_yl (S := fun wS => Mem w wS _) HF HM (i := 0) rfl rfl (d := 31) rfl (by decide) (v := .agg #[.int .u8 1, .int .u8 2, .int .i64 3, .int .i64 0, .slice none 0 0]) (Yl.build (vs := [(0, .int .u8 1), (1, .int .u8 2), (2, .int .i64 3)]) rfl (by kernel_rfl) (by kernel_rfl)) ?_; clear HF; intro a HF
  refine from_op HF (i := 1) rfl rfl ?_
  refine e_call HF (vs := [.agg #[.int .u8 1, .int .u8 2, .int .i64 3, .int .i64 0, .slice none 0 0]]) rfl (by kernel_rfl) (by kernel_rfl) rfl (by decide) (bsize_is (⟨1, 2, 3, 0, []⟩ : Bk) (numOk 1 2 3 0 (by decide) (by decide) (by unfold I64; decide) (by unfold I64; decide)) none 0 B _ (hL.mem HM hB) (HM.le hB) (Rd.nil) (by decide) (ba3.1) (ba3.2)) ?_
  rintro _ w32 ⟨rfl, hbw⟩
  refine ⟨_, rfl, ?_⟩
  replace HM := HM.call hbw
  clear HF; intro a HF
  refine from_pures HF 5 2 (j := 7) [(6, .int .i64 0), (5, .int .i64 15), (34, .int .i64 0), (33, .int .i64 15), (30, .tuple #[.int .i64 15, .int .i64 0])] (by kernel_rfl) rfl ?_; clear HF; intro a HF
  refine from_done rfl ?_
  replace HF := HF.sub (σ' := [(6, .int .i64 0), (5, .int .i64 15), (4, .int .i64 0), (3, .slice A27 23 c27), (2, .int .i64 0), (1, .slice A20 13 c20), (0, .bool false)]) (by kernel_rfl)
  refine wp_seq ?_
  refine wp_seq ?_
  refine from_start ?_
  refine from_pures HF 8 0 (j := 8) [(42, .slice A20 13 c20), (41, .bool false), (40, .bool false), (39, .int .i64 0), (38, .int .i64 0), (37, .int .i64 0), (36, .int .i64 0), (35, .int .i64 0)] (by kernel_rfl) rfl ?_; clear HF; intro a HF
  refine from_yl (S := fun wS => Mem w wS _) HF HM (i := 8) rfl rfl (d := 43) rfl (by decide) (v := .int .i64 13) (Yl.len rfl rfl (by kernel_rfl)) ?_; clear HF; intro a HF
  refine from_pures HF 4 9 (j := 13) [(47, .slice A20 13 c20), (46, .bool false), (45, .bool false), (44, .bool false)] (by kernel_rfl) rfl ?_; clear HF; intro a HF
  refine from_yl (S := fun wS => Mem w wS _) HF HM (i := 13) rfl rfl (d := 48) rfl (by decide) (v := .slice A20 9 c20) (Yl.sliceUpto ei_u8 (j := 9) rfl rfl rfl (by omega)) ?_; clear HF; intro a HF
  refine from_yl (S := fun wS => Mem w wS _) HF HM (i := 14) rfl rfl (d := 49) rfl (by decide) (v := .string (bstr (awX.take 9))) (Yl.str rfl rfl (fun _ h => (h.rd (i := 1) rfl).toB8 (k := 9) (by decide))) ?_; clear HF; intro a HF
  refine from_pures HF 1 15 (j := 16) [(50, .bool (!(((bstr (awX.take 9))).toList == ((ByteArray.mk #[13, 0, 0, 0, 113, 116, 1, 2, 7])).toList)))] (by kernel_rfl) rfl ?_; clear HF; intro a HF
  replace HF := HF.as (t := 50) (u := .bool false) rfl (by rw [str_lit (by kernel_rfl)]; rfl)
  refine from_pures HF 3 16 (j := 19) [(53, .slice A27 23 c27), (52, .bool false), (51, .bool false)] (by kernel_rfl) rfl ?_; clear HF; intro a HF
  refine from_yl (S := fun wS => Mem w wS _) HF HM (i := 19) rfl rfl (d := 54) rfl (by decide) (v := .int .i64 23) (Yl.len rfl rfl (by kernel_rfl)) ?_; clear HF; intro a HF
  refine from_pures HF 4 20 (j := 24) [(58, .slice A27 23 c27), (57, .bool false), (56, .bool false), (55, .bool false)] (by kernel_rfl) rfl ?_; clear HF; intro a HF
  refine from_yl (S := fun wS => Mem w wS _) HF HM (i := 24) rfl rfl (d := 59) rfl (by decide) (v := .slice A27 19 c27) (Yl.sliceUpto ei_u8 (j := 19) rfl rfl rfl (by omega)) ?_; clear HF; intro a HF
  refine from_yl (S := fun wS => Mem w wS _) HF HM (i := 25) rfl rfl (d := 60) rfl (by decide) (v := .string (bstr (awY.take 19))) (Yl.str rfl rfl (fun _ h => (h.rd (i := 0) rfl).toB8 (k := 19) (by decide))) ?_; clear HF; intro a HF
  refine from_pures HF 1 26 (j := 27) [(61, .bool (!(((bstr (awY.take 19))).toList == ((ByteArray.mk #[23, 0, 0, 0, 113, 116, 1, 1, 2, 0, 1, 5, 212, 2, 5, 0, 0, 40, 7])).toList)))] (by kernel_rfl) rfl ?_; clear HF; intro a HF
  replace HF := HF.as (t := 61) (u := .bool false) rfl (by rw [str_lit (by kernel_rfl)]; rfl)
  refine from_pures HF 5 27 (j := 32) [(66, .bool false), (65, .bool false), (64, .int .i64 15), (63, .bool false), (62, .bool false)] (by kernel_rfl) rfl ?_; clear HF; intro a HF
  refine from_done rfl ?_
  replace HF := HF.sub (σ' := [(66, .bool false), (1, .slice A20 13 c20), (0, .bool false)]) (by kernel_rfl)
  replace HM := HM.picks (fs' := [.row (.slice A20 13 c20) 13 (awX.map B8) 5 1]) [1] (by decide) rfl
  refine cond_false HF rfl ?_
  refine wp_skip ?_
  refine wp_seq ?_
  refine from_start ?_
  refine from_pures HF 1 0 (j := 1) [(68, .slice A20 13 c20)] (by kernel_rfl) rfl ?_; clear HF; intro a HF
  refine from_op HF (i := 1) rfl rfl ?_
  refine e_call HF (vs := [.slice A20 13 c20]) rfl (by kernel_rfl) (by kernel_rfl) rfl (by decide) (bread_is A20 13 c20 awX B _ (hL.mem HM hB) (HM.le hB) (HM.rd (i := 0) rfl) (by omega) (rfl) (by decide) (awX_lt) (ba4)) ?_
  rintro _ w69 ⟨⟨A69, c69, rfl, ho, hc69⟩, hbw⟩
  refine ⟨_, rfl, ?_⟩
  replace HM := HM.callRow hbw ho
  clear HF; intro a HF
  refine from_pures HF 4 2 (j := 6) [(72, .int .i64 0), (71, .int .i64 13), (70, .agg #[.int .u8 2, .int .u8 0, .int .i64 0, .int .i64 7, .slice A69 0 c69]), (67, .tuple #[.agg #[.int .u8 2, .int .u8 0, .int .i64 0, .int .i64 7, .slice A69 0 c69], .int .i64 13, .int .i64 0])] (by kernel_rfl) rfl ?_; clear HF; intro a HF
  refine from_op HF (i := 6) rfl rfl ?_
  refine e_alloc HF HM (cs := #[.int .u8 0, .int .u8 0, .int .i64 0, .int .i64 0, .slice none 0 0]) rfl (by kernel_rfl) rfl (by decide) ?_
  clear HF HM; intro a w7 g7 HF HM
  refine from_op HF (i := 7) rfl rfl ?_
  refine e_storeAll HF HM (i := 0) (cs := #[.int .u8 0, .int .u8 0, .int .i64 0, .int .i64 0, .slice none 0 0]) (ds := #[.int .u8 2, .int .u8 0, .int .i64 0, .int .i64 7, .slice A69 0 c69]) rfl rfl rfl rfl si_bk rfl rfl (by simp [Value.oneCell']) rfl ?_
  clear HM; intro w6_7 HM
  refine from_pures HF 2 8 (j := 10) [(9, .int .i64 0), (8, .int .i64 13)] (by kernel_rfl) rfl ?_; clear HF; intro a HF
  refine from_done rfl ?_
  replace HF := HF.sub (σ' := [(9, .int .i64 0), (8, .int .i64 13), (7, .pointer (some ⟨g7, 0, none⟩)), (66, .bool false), (1, .slice A20 13 c20), (0, .bool false)]) (by kernel_rfl)
  replace HM := HM.picks (fs' := [.blk g7 #[.int .u8 2, .int .u8 0, .int .i64 0, .int .i64 7, .slice A69 0 c69] 37, .row (.slice A20 13 c20) 13 (awX.map B8) 5 1]) [0, 2] (by decide) rfl
  refine wp_seq ?_
  refine from_start ?_
  refine from_pures HF 1 0 (j := 1) [(73, .slice A20 13 c20)] (by kernel_rfl) rfl ?_; clear HF; intro a HF
  obtain ⟨gA20, rfl⟩ := own_some (HM.own (i := 1) rfl) (Nat.lt_of_le_of_lt (Nat.zero_le _) (show 8 < 13 from by decide))
  refine from_yl (S := fun wS => Mem w wS _) HF HM (i := 1) rfl rfl (d := 74) rfl (by decide) (v := .pointer (some ⟨gA20, 8, none⟩)) (Yl.indexAddr (ad := ⟨gA20, 0, none⟩) (y := 8) (sz := 1) rfl rfl rfl (by decide) (by kernel_rfl)) ?_; clear HF; intro a HF
  refine from_yl (S := fun wS => Mem w wS _) HF HM (i := 2) rfl rfl (d := 75) rfl (by decide) (v := .int .u8 (7 : Int)) (Yl.load1 rfl rfl (by kernel_rfl) (fun _ h => h.rowOne (i := 1) rfl (k := 8) (map_at (F := B8) (k := 8) (x := 7) (rfl)))) ?_; clear HF; intro a HF
  refine from_pures HF 1 3 (j := 4) [(76, .int .u8 (IntKind.u8.wrap (BitVec.ofInt (IntKind.u8).bits (7 : Int) ^^^ BitVec.ofInt (IntKind.u8).bits 1).toNat))] (by kernel_rfl) rfl ?_; clear HF; intro a HF
  replace HF := HF.as (t := 76) (u := .int .u8 6) rfl (by kernel_rfl)
  refine from_yl (S := fun wS => Mem w wS _) HF HM (i := 4) rfl rfl (d := 77) rfl (by decide) (v := .pointer (some ⟨gA20, 8, none⟩)) (Yl.indexAddr (ad := ⟨gA20, 0, none⟩) (y := 8) (sz := 1) rfl rfl rfl (by decide) (by kernel_rfl)) ?_; clear HF; intro a HF
  refine from_op HF (i := 5) rfl rfl ?_
  refine e_storeRow HF HM (i := 1) rfl rfl rfl rfl (by kernel_rfl) rfl rfl (by decide) ?_
  clear HM; intro w7_5 HM
  replace HM := HM.asRow (i := 1) (ys := awZ.map B8) rfl (putAt_one B8 awX 8 6 (by decide))
  refine from_done rfl ?_
  replace HF := HF.sub (σ' := [(9, .int .i64 0), (8, .int .i64 13), (7, .pointer (some ⟨g7, 0, none⟩)), (66, .bool false), (1, .slice (some ⟨gA20, 0, none⟩) 13 c20), (0, .bool false)]) (by kernel_rfl)
  refine wp_seq ?_
  refine from_start ?_
  refine from_pures HF 1 0 (j := 1) [(79, .slice (some ⟨gA20, 0, none⟩) 13 c20)] (by kernel_rfl) rfl ?_; clear HF; intro a HF
  refine from_op HF (i := 1) rfl rfl ?_
  refine e_call HF (vs := [.slice (some ⟨gA20, 0, none⟩) 13 c20]) rfl (by kernel_rfl) (by kernel_rfl) rfl (by decide) (bread_is (some ⟨gA20, 0, none⟩) 13 c20 awZ B _ (hL.mem HM hB) (HM.le hB) (HM.rd (i := 1) rfl) (by omega) (rfl) (by decide) (awZ_lt) (ba5)) ?_
  rintro _ w80 ⟨⟨A80, c80, rfl, ho, hc80⟩, hbw⟩
  refine ⟨_, rfl, ?_⟩
  replace HM := HM.callRow hbw ho
  clear HF; intro a HF
  refine from_pures HF 4 2 (j := 6) [(83, .int .i64 102), (82, .int .i64 0), (81, .agg #[.int .u8 0, .int .u8 0, .int .i64 0, .int .i64 0, .slice A80 0 c80]), (78, .tuple #[.agg #[.int .u8 0, .int .u8 0, .int .i64 0, .int .i64 0, .slice A80 0 c80], .int .i64 0, .int .i64 102])] (by kernel_rfl) rfl ?_; clear HF; intro a HF
  refine from_op HF (i := 6) rfl rfl ?_
  refine e_alloc HF HM (cs := #[.int .u8 0, .int .u8 0, .int .i64 0, .int .i64 0, .slice none 0 0]) rfl (by kernel_rfl) rfl (by decide) ?_
  clear HF HM; intro a w10 g10 HF HM
  refine from_op HF (i := 7) rfl rfl ?_
  refine e_storeAll HF HM (i := 0) (cs := #[.int .u8 0, .int .u8 0, .int .i64 0, .int .i64 0, .slice none 0 0]) (ds := #[.int .u8 0, .int .u8 0, .int .i64 0, .int .i64 0, .slice A80 0 c80]) rfl rfl rfl rfl si_bk rfl rfl (by simp [Value.oneCell']) rfl ?_
  clear HM; intro w8_7 HM
  refine from_pures HF 2 8 (j := 10) [(12, .int .i64 102), (11, .int .i64 0)] (by kernel_rfl) rfl ?_; clear HF; intro a HF
  refine from_done rfl ?_
  replace HF := HF.sub (σ' := [(12, .int .i64 102), (9, .int .i64 0), (8, .int .i64 13), (7, .pointer (some ⟨g7, 0, none⟩)), (66, .bool false), (1, .slice (some ⟨gA20, 0, none⟩) 13 c20), (0, .bool false)]) (by kernel_rfl)
  replace HM := HM.picks (fs' := [.blk g7 #[.int .u8 2, .int .u8 0, .int .i64 0, .int .i64 7, .slice A69 0 c69] 37, .row (.slice (some ⟨gA20, 0, none⟩) 13 c20) 13 (awZ.map B8) 5 1]) [2, 3] (by decide) rfl
  refine wp_seq ?_
  refine from_start ?_
  refine from_pures HF 1 0 (j := 1) [(85, .slice (some ⟨gA20, 0, none⟩) 13 c20)] (by kernel_rfl) rfl ?_; clear HF; intro a HF
  refine from_yl (S := fun wS => Mem w wS _) HF HM (i := 1) rfl rfl (d := 86) rfl (by decide) (v := .slice (some ⟨gA20, 0, none⟩) 4 c20) (Yl.sliceUpto ei_u8 (j := 4) rfl rfl rfl (by omega)) ?_; clear HF; intro a HF
  refine from_op HF (i := 2) rfl rfl ?_
  refine e_call HF (vs := [.slice (some ⟨gA20, 0, none⟩) 4 c20]) rfl (by kernel_rfl) (by kernel_rfl) rfl (by decide) (bread_is (some ⟨gA20, 0, none⟩) 4 c20 (awZ.take 4) B _ (hL.mem HM hB) (HM.le hB) (((HM.rd (i := 1) rfl).toB8 (k := 4) (by decide))) (by omega) (rfl) (by decide) ((take_lt awZ_lt 4)) (ba6)) ?_
  rintro _ w87 ⟨⟨A87, c87, rfl, ho, hc87⟩, hbw⟩
  refine ⟨_, rfl, ?_⟩
  replace HM := HM.callRow hbw ho
  clear HF; intro a HF
  refine from_pures HF 4 3 (j := 7) [(90, .int .i64 100), (89, .int .i64 0), (88, .agg #[.int .u8 0, .int .u8 0, .int .i64 0, .int .i64 0, .slice A87 0 c87]), (84, .tuple #[.agg #[.int .u8 0, .int .u8 0, .int .i64 0, .int .i64 0, .slice A87 0 c87], .int .i64 0, .int .i64 100])] (by kernel_rfl) rfl ?_; clear HF; intro a HF
  refine from_op HF (i := 7) rfl rfl ?_
  refine e_alloc HF HM (cs := #[.int .u8 0, .int .u8 0, .int .i64 0, .int .i64 0, .slice none 0 0]) rfl (by kernel_rfl) rfl (by decide) ?_
  clear HF HM; intro a w13 g13 HF HM
  refine from_op HF (i := 8) rfl rfl ?_
  refine e_storeAll HF HM (i := 0) (cs := #[.int .u8 0, .int .u8 0, .int .i64 0, .int .i64 0, .slice none 0 0]) (ds := #[.int .u8 0, .int .u8 0, .int .i64 0, .int .i64 0, .slice A87 0 c87]) rfl rfl rfl rfl si_bk rfl rfl (by simp [Value.oneCell']) rfl ?_
  clear HM; intro w9_8 HM
  refine from_pures HF 2 9 (j := 11) [(15, .int .i64 100), (14, .int .i64 0)] (by kernel_rfl) rfl ?_; clear HF; intro a HF
  refine from_done rfl ?_
  replace HF := HF.sub (σ' := [(15, .int .i64 100), (12, .int .i64 102), (9, .int .i64 0), (8, .int .i64 13), (7, .pointer (some ⟨g7, 0, none⟩)), (66, .bool false), (1, .slice (some ⟨gA20, 0, none⟩) 13 c20), (0, .bool false)]) (by kernel_rfl)
  replace HM := HM.picks (fs' := [.blk g7 #[.int .u8 2, .int .u8 0, .int .i64 0, .int .i64 7, .slice A69 0 c69] 37, .row (.slice (some ⟨gA20, 0, none⟩) 13 c20) 13 (awZ.map B8) 5 1]) [2, 3] (by decide) rfl
  refine wp_seq ?_
  refine from_start ?_
  refine from_op HF (i := 0) rfl rfl ?_
  refine e_slice HF HM (vs := [(0, .int .u8 12), (1, .int .u8 0), (2, .int .u8 0), (3, .int .u8 0)]) (cs := #[.int .u8 12, .int .u8 0, .int .u8 0, .int .u8 0]) rfl ei_u8 (by decide) rfl (by kernel_rfl) rfl (by decide) ?_
  clear HF HM; intro a w92 g92 HF HM
  refine from_op HF (i := 1) rfl rfl ?_
  refine e_call HF (vs := [.slice (some ⟨g92, 0, none⟩) 4 4]) rfl (by kernel_rfl) (by kernel_rfl) rfl (by decide) (length_is _ 4 _ [12, 0, 0, 0] _ (HM.rdBlk (i := 0) (n := 4) (size := 1) rfl rfl) rfl (by decide) (by decide) ba7) ?_
  rintro _ w93 ⟨rfl, hbw⟩
  refine ⟨_, rfl, ?_⟩
  replace HM := HM.call hbw
  clear HF; intro a HF
  refine from_pures HF 5 2 (j := 7) [(17, .int .i64 101), (16, .int .i64 0), (95, .int .i64 101), (94, .int .i64 0), (91, .tuple #[.int .i64 0, .int .i64 101])] (by kernel_rfl) rfl ?_; clear HF; intro a HF
  refine from_done rfl ?_
  replace HF := HF.sub (σ' := [(17, .int .i64 101), (15, .int .i64 100), (12, .int .i64 102), (9, .int .i64 0), (8, .int .i64 13), (7, .pointer (some ⟨g7, 0, none⟩)), (66, .bool false), (1, .slice (some ⟨gA20, 0, none⟩) 13 c20), (0, .bool false)]) (by kernel_rfl)
  replace HM := HM.picks (fs' := [.blk g7 #[.int .u8 2, .int .u8 0, .int .i64 0, .int .i64 7, .slice A69 0 c69] 37, .row (.slice (some ⟨gA20, 0, none⟩) 13 c20) 13 (awZ.map B8) 5 1]) [1, 2] (by decide) rfl
  refine wp_seq ?_
  refine from_start ?_
  refine from_pures HF 8 0 (j := 8) [(103, .pointer (some ⟨g7, 0, none⟩)), (102, .bool true), (101, .bool true), (100, .bool true), (99, .int .i64 13), (98, .bool true), (97, .bool true), (96, .int .i64 0)] (by kernel_rfl) rfl ?_; clear HF; intro a HF
  refine from_yl (S := fun wS => Mem w wS _) HF HM (i := 8) rfl rfl (d := 104) rfl (by decide) (v := .int .u8 2) (Yl.load1 rfl rfl (by kernel_rfl) (fun _ h => h.cell (i := 0) rfl rfl)) ?_; clear HF; intro a HF
  refine from_pures HF 4 9 (j := 13) [(108, .pointer (some ⟨g7, 3, none⟩)), (107, .bool true), (106, .bool true), (105, .bool true)] (by kernel_rfl) rfl ?_; clear HF; intro a HF
  refine from_yl (S := fun wS => Mem w wS _) HF HM (i := 13) rfl rfl (d := 109) rfl (by decide) (v := .int .i64 7) (Yl.load1 rfl rfl (by kernel_rfl) (fun _ h => h.cell (i := 0) rfl rfl)) ?_; clear HF; intro a HF
  refine from_pures HF 15 14 (j := 29) [(124, .bool true), (123, .bool true), (122, .bool true), (121, .int .i64 101), (120, .bool true), (119, .bool true), (118, .bool true), (117, .int .i64 100), (116, .bool true), (115, .bool true), (114, .bool true), (113, .int .i64 102), (112, .bool true), (111, .bool true), (110, .bool true)] (by kernel_rfl) rfl ?_; clear HF; intro a HF
  refine from_yl (S := fun wS => Mem w wS _) HF HM (i := 29) rfl rfl (d := 125) rfl (by decide) (v := .agg #[.int .u8 1, .int .u8 2, .int .i64 0, .int .i64 0, .slice none 0 0]) (Yl.build (vs := [(0, .int .u8 1), (1, .int .u8 2)]) rfl (by kernel_rfl) (by kernel_rfl)) ?_; clear HF; intro a HF
  refine from_op HF (i := 30) rfl rfl ?_
  refine e_call HF (vs := [.agg #[.int .u8 1, .int .u8 2, .int .i64 0, .int .i64 0, .slice none 0 0]]) rfl (by kernel_rfl) (by kernel_rfl) rfl (by decide) (bcheck_is (⟨1, 2, 0, 0, []⟩ : Bk) (numOk 1 2 0 0 (by decide) (by decide) (by unfold I64; decide) (by unfold I64; decide)) none 0 B _ (hL.mem HM hB) (HM.le hB) (Rd.nil) (by decide) (ba8)) ?_
  rintro _ w126 ⟨rfl, hbw⟩
  refine ⟨_, rfl, ?_⟩
  replace HM := HM.call hbw
  clear HF; intro a HF
  refine from_pures HF 3 31 (j := 34) [(129, .bool true), (128, .bool true), (127, .bool true)] (by kernel_rfl) rfl ?_; clear HF; intro a HF
  refine from_yl (S := fun wS => Mem w wS _) HF HM (i := 34) rfl rfl (d := 130) rfl (by decide) (v := .agg #[.int .u8 2, .int .u8 0, .int .i64 0, .int .i64 0, .slice none 0 0]) (Yl.build (vs := [(0, .int .u8 2)]) rfl (by kernel_rfl) (by kernel_rfl)) ?_; clear HF; intro a HF
  refine from_op HF (i := 35) rfl rfl ?_
  refine e_call HF (vs := [.agg #[.int .u8 2, .int .u8 0, .int .i64 0, .int .i64 0, .slice none 0 0]]) rfl (by kernel_rfl) (by kernel_rfl) rfl (by decide) (bcheck_is (⟨2, 0, 0, 0, []⟩ : Bk) (numOk 2 0 0 0 (by decide) (by decide) (by unfold I64; decide) (by unfold I64; decide)) none 0 B _ (hL.mem HM hB) (HM.le hB) (Rd.nil) (by decide) (ba9)) ?_
  rintro _ w131 ⟨rfl, hbw⟩
  refine ⟨_, rfl, ?_⟩
  replace HM := HM.call hbw
  clear HF; intro a HF
  refine from_pures HF 3 36 (j := 39) [(0, .bool true), (133, .bool true), (132, .bool true)] (by kernel_rfl) rfl ?_; clear HF; intro a HF
  refine from_done rfl ?_
  replace HF := HF.sub (σ' := [(0, .bool true), (7, .pointer (some ⟨g7, 0, none⟩)), (66, .bool false), (1, .slice (some ⟨gA20, 0, none⟩) 13 c20)]) (by kernel_rfl)
  refine wp_ret ?_
  exact ret1 rfl HF (.tmp HF rfl) (⟨rfl, HM.below⟩)
end Go.Proofs.YtjpielapplglmaaDoor

/- The blocks that numbers make: plain, and in memory. -/
namespace Go.Proofs.YtjpielapplglmaaDoor
open Go.RowKit

structure Sb where
  e : Bool
  cpu : Nat
  lost : Nat
  b : Bs
  l : List Sm
structure Sb.Ok (x : Sb) : Prop where
  cpu : x.cpu < 256
  lost : x.lost < 4294967296
  b : x.b.Ok
  l : ∀ y ∈ x.l, y.Ok
def Sb.cells (x : Sb) (A : Option Addr) (c : Nat) : Array Value := #[.bool x.e, .int .u8 (x.cpu : Int), .int .u32 (x.lost : Int), .int .i64 x.b.seq, .int .i64 x.b.time, .slice A x.l.length c]
theorem sb_one (x : Sb) (A : Option Addr) (c : Nat) : ∀ v ∈ (x.cells A c).toList, v.oneCell' = true := by intro v hv; simp [Sb.cells] at hv; rcases hv with rfl | rfl | rfl | rfl | rfl | rfl <;> rfl
theorem si_sb : SI Tryd.prog 30 6 := ⟨by kernel_rfl, by kernel_rfl⟩
def Sb.es (x : Sb) : List Ev := madeL x.cpu x.b (x.l.take 60)
def Sb.made (x : Sb) : Bk := if x.e = true then ⟨2, 0, 0, 1 + pickZ x.b.seq 281474976710657, []⟩ else ⟨1, x.cpu % 64, if x.es.length = 0 ∧ x.lost = 0 then 1 else (x.lost : Int), 0, x.es⟩
def MadeIs (w : World) (b : Bk) (r : Ending) (w' : World) : Prop :=
  (∃ A c, r = .returned (.agg (b.cells A c)) ∧ w'.ownsRow w.heap.size 55 11 (.slice A b.evs.length c) b.evs.length (b.evs.flatMap evL) ∧ b.evs.length ≤ c) ∧ Below w.heap.size w w'
theorem madeIs_of {w w' : World} {b d : Bk} {A : Option Addr} {c : Nat} (h : b = d) (ho : w'.ownsRow w.heap.size 55 11 (.slice A d.evs.length c) d.evs.length (d.evs.flatMap evL)) (hc : d.evs.length ≤ c) (hb : Below w.heap.size w w') : MadeIs w b (.returned (.agg (d.cells A c))) w' := by
  subst h; exact ⟨⟨A, c, rfl, ho, hc⟩, hb⟩
theorem pick_next (x : Int) : 0 ≤ pickZ x 281474976710657 ∧ pickZ x 281474976710657 ≤ 281474976710656 := by unfold pickZ; rw [if_neg (by omega)]; omega
theorem take_smOk {x : Sb} (h : x.Ok) : ∀ y ∈ x.l.take 60, y.Ok := fun y hy => h.l y (List.mem_of_mem_take hy)
theorem es_chain {x : Sb} (h : x.Ok) : Chain (x.cpu % 64) none x.b.based x.es := madeL_chain h.cpu x.b (take_smOk h)
theorem es_len (x : Sb) : x.es.length ≤ 60 := by
  unfold Sb.es madeL
  rw [madeGo_len, List.length_take, List.length_take]
  omega
theorem chain_ev : ∀ (es : List Ev) (cpu : Nat) (p : Option Ev) (b : Bs), Chain cpu p b es → ∀ e ∈ es, e.Ok ∧ e.cpu = cpu
  | [], _, _, _, _, e, he => by cases he
  | x :: r, cpu, p, b, h, e, he => by
    obtain ⟨h1, h2, h3, h4⟩ := h
    rcases List.mem_cons.1 he with rfl | he
    · exact ⟨h1.ok, h2⟩
    · exact chain_ev r cpu _ _ h4 e he
theorem made_good {x : Sb} (h : x.Ok) : x.made.Ok ∧ x.made.err = 0 ∧ x.made.evs.length ≤ 60 := by
  unfold Sb.made
  split
  · have hp := pick_next x.b.seq
    have hok : Bk.Ok ⟨2, 0, 0, 1 + pickZ x.b.seq 281474976710657, []⟩ := ⟨by show 2 < 256; decide, by show 0 < 256; decide, by unfold I64; simp, by unfold I64; show _ ≤ 1 + pickZ _ _ ∧ 1 + pickZ _ _ ≤ _; omega, by intro e he; cases he⟩
    have hf : Bk.fits ⟨2, 0, 0, 1 + pickZ x.b.seq 281474976710657, []⟩ = true := by
      unfold Bk.fits
      rw [if_neg (by show ¬ 2 = 1; omega), if_pos rfl]
      unfold Bk.fitsN
      rw [decide_eq_true_eq]
      exact ⟨by show 1 ≤ 1 + pickZ _ _; omega, by show 1 + pickZ _ _ ≤ _; omega, rfl, rfl, rfl⟩
    exact ⟨hok, err_is hf (by have := body_length ⟨2, 0, 0, 1 + pickZ x.b.seq 281474976710657, []⟩; simp only [List.length_nil] at this; omega), by show 0 ≤ 60; omega⟩
  · have hch := es_chain h
    have hev := chain_ev _ _ _ _ hch
    have hl := es_len x
    have hlost := h.lost
    have hb := based_right x.b
    have hrow := (write_fwd hb.1 hch).1
    obtain ⟨lo, hlo, hlo1, hlo2⟩ : ∃ lo : Int, (if x.es.length = 0 ∧ x.lost = 0 then 1 else (x.lost : Int)) = lo ∧ (0 ≤ lo ∧ lo ≤ 4294967296) ∧ (x.es.length = 0 → 0 < lo) := by
      refine ⟨_, rfl, ?_, ?_⟩
      · split <;> omega
      · intro h0; split <;> omega
    rw [hlo]
    have hok : Bk.Ok ⟨1, x.cpu % 64, lo, 0, x.es⟩ := ⟨by show 1 < 256; decide, by show x.cpu % 64 < 256; omega, by unfold I64; show _ ≤ lo ∧ lo ≤ _; omega, by unfold I64; simp, fun e he => (hev e he).1⟩
    have hf : Bk.fits ⟨1, x.cpu % 64, lo, 0, x.es⟩ = true := by
      unfold Bk.fits
      rw [if_pos rfl]
      unfold Bk.fitsE
      rw [decide_eq_true_eq]
      refine ⟨by show (rowR x.es).2 = 0; rw [hrow], by show x.cpu % 64 < 64; omega, hlo1.1, by show lo ≤ _; omega, rfl, ?_⟩
      by_cases h0 : x.es.length = 0
      · rw [headOk_nil h0, decide_eq_true_eq]; exact hlo2 h0
      · rw [headOk_cons h0, decide_eq_true_eq]
        exact (hev _ (getD_mem Ev.zero (by omega))).2
    exact ⟨hok, err_is hf (by have := body_length ⟨1, x.cpu % 64, lo, 0, x.es⟩; simp only at this; omega), hl⟩
theorem made_out (x : Sb) (h : x.Ok) : 13 ≤ x.made.out.length ∧ x.made.out.length ≤ 4096 := by
  have h1 := out_length (made_good h).2.1
  have h2 := body_pos x.made
  have h3 := out_len x.made
  omega
theorem take60 (l : List Sm) : l.take (l.take 60).length = l.take 60 := by
  rw [List.length_take]
  rcases Nat.le_total 60 l.length with h | h
  · rw [Nat.min_eq_left h]
  · rw [Nat.min_eq_right h, List.take_of_length_le (Nat.le_refl _), List.take_of_length_le h]
theorem min60 (n : Nat) (l : List Sm) (h : l.length = n) : Value.int .i64 (if ((60 : Int) < (n : Int)) then 60 else (n : Int)) = .int .i64 (((l.take 60).length : Nat) : Int) := by
  congr 1
  rw [List.length_take]
  split <;> omega
end Go.Proofs.YtjpielapplglmaaDoor

/- What the reading of an argument gives: blocks, and blocks in numbers. -/
namespace Go.Proofs.YtjpielapplglmaaDoor
open Go.RowKit Go.ChangeShapes Go.WideShapes Go.ChangeAt

section
variable {H : Type} {enc : TypeId × Value → H} {W : World} {b0 : Nat} {v : Value} {d : DataW H} {p : List MemPlace}
theorem und_bool : Tryd.prog.underlying 4 = some .bool := by kernel_rfl
theorem cells_bool : Tryd.prog.cellsOf 4 = 1 := by kernel_rfl
theorem cells_u32 : Tryd.prog.cellsOf 25 = 1 := by kernel_rfl
theorem cells_sms : Tryd.prog.cellsOf 28 = 1 := by kernel_rfl
theorem sb_f0 : fieldAt Tryd.prog 30 0 0 4 = true := by kernel_rfl
theorem sb_f1 : fieldAt Tryd.prog 30 1 1 5 = true := by kernel_rfl
theorem sb_f2 : fieldAt Tryd.prog 30 2 2 25 = true := by kernel_rfl
theorem sb_f3 : fieldAt Tryd.prog 30 3 3 27 = true := by kernel_rfl
theorem sb_f4 : fieldAt Tryd.prog 30 4 5 28 = true := by kernel_rfl
theorem sb_cells : Tryd.prog.cellsOf 30 = 6 := by kernel_rfl
theorem bk_f0 : fieldAt Tryd.prog 37 0 0 5 = true := by kernel_rfl
theorem bk_f1 : fieldAt Tryd.prog 37 1 1 5 = true := by kernel_rfl
theorem bk_f2 : fieldAt Tryd.prog 37 2 2 3 = true := by kernel_rfl
theorem bk_f3 : fieldAt Tryd.prog 37 3 3 3 = true := by kernel_rfl
theorem bk_f4 : fieldAt Tryd.prog 37 4 4 35 = true := by kernel_rfl
theorem bk_cells : Tryd.prog.cellsOf 37 = 5 := by kernel_rfl
set_option maxRecDepth 100000 in
theorem arg_u32 (hval : Value.okWide Tryd.prog W .any b0 25 v) (h : DataW.Trod enc Tryd.prog W 0 (fun _ => true) true 25 v d p) : ∃ m : Nat, v = .int .u32 (m : Int) ∧ m < 4294967296 := by
  obtain ⟨m, rfl, _, _, wf⟩ := open_int und_u32 hval h
  have := u32_wf wf
  exact ⟨m.toNat, by rw [Int.toNat_of_nonneg this.1], by omega⟩
set_option maxRecDepth 100000 in
theorem trod_smalls {fuel : Nat} {cs : List Value} {x : DataW H × List MemPlace} (hf : DataW.trod enc Tryd.prog W 0 (fun _ => true) true fuel 28 cs = some x) :
    ∃ (A : Option Addr) (n c : Nat) (l : List Sm), cs = [.slice A n c] ∧ n ≤ c ∧ c ≤ maxLen ∧ (∀ x ∈ l, x.Ok) ∧ Rd W W.heap.size 11 A n (l.flatMap smL) := by
  obtain ⟨A, n, c, css, hcs, h1, h2, _, h3, h4⟩ := slice_structs und_smalls sm_fields (by decide) hf
  obtain ⟨l, h5, h6⟩ := exists_sms css h3
  exact ⟨A, n, c, l, hcs, h1, h2, h6, by rw [h5]; exact h4⟩
theorem six_list {cs : List Value} {a b c d e f : Value} (hl : cs.length = 6) (h0 : cs[0]? = some a) (h1 : cs[1]? = some b) (h2 : cs[2]? = some c) (h3 : cs[3]? = some d) (h4 : cs[4]? = some e) (h5 : cs[5]? = some f) : cs = [a, b, c, d, e, f] := by
  refine list_eq hl fun i hi => ?_
  have hi' : i < 6 := hi
  have hc : i = 0 ∨ i = 1 ∨ i = 2 ∨ i = 3 ∨ i = 4 ∨ i = 5 := by omega
  rcases hc with rfl | rfl | rfl | rfl | rfl | rfl <;> assumption
theorem five_list {cs : List Value} {a b c d e : Value} (hl : cs.length = 5) (h0 : cs[0]? = some a) (h1 : cs[1]? = some b) (h2 : cs[2]? = some c) (h3 : cs[3]? = some d) (h4 : cs[4]? = some e) : cs = [a, b, c, d, e] := by
  refine list_eq hl fun i hi => ?_
  have hi' : i < 5 := hi
  have hc : i = 0 ∨ i = 1 ∨ i = 2 ∨ i = 3 ∨ i = 4 := by omega
  rcases hc with rfl | rfl | rfl | rfl | rfl <;> assumption
theorem smL_lenN {A : Option Addr} {n : Nat} {l : List Sm} (h : Rd W W.heap.size 11 A n (l.flatMap smL)) : l.length = n := by
  have h1 := h.len
  rw [flat_len smL 11 smL_len] at h1
  omega
theorem evL_lenN {A : Option Addr} {n : Nat} {l : List Ev} (h : Rd W W.heap.size 11 A n (l.flatMap evL)) : l.length = n := by
  have h1 := h.len
  rw [flat_len evL 11 evL_len] at h1
  omega
set_option maxRecDepth 100000 in
theorem arg_sb (hval : Value.okWide Tryd.prog W .any b0 30 v) (h : DataW.Trod enc Tryd.prog W 0 (fun _ => true) true 30 v d p) :
    ∃ (x : Sb) (A : Option Addr) (c : Nat), v = .agg (x.cells A c) ∧ x.Ok ∧ x.l.length ≤ c ∧ c ≤ maxLen ∧ Rd W W.heap.size 11 A x.l.length (x.l.flatMap smL) := by
  obtain ⟨fs, hu⟩ := of_isStructT (show isStructT Tryd.prog 30 = true by kernel_rfl)
  obtain ⟨cs, rfl, hs⟩ := okWide_struct hu hval
  obtain ⟨fuel, hf⟩ := h
  have hf : DataW.trod enc Tryd.prog W 0 (fun _ => true) true fuel 30 cs.toList = some (d, p) := hf
  obtain ⟨hl, _, y0, g0⟩ := struct_field sb_f0 hf
  obtain ⟨_, _, y1, g1⟩ := struct_field sb_f1 hf
  obtain ⟨_, _, y2, g2⟩ := struct_field sb_f2 hf
  obtain ⟨_, _, y3, g3⟩ := struct_field sb_f3 hf
  obtain ⟨_, _, y4, g4⟩ := struct_field sb_f4 hf
  have hl6 : cs.toList.length = 6 := by rw [← sb_cells]; exact hl
  obtain ⟨e, e0, _⟩ := DataW.trod_bool und_bool g0
  obtain ⟨cpu, e1, _, w1⟩ := DataW.trod_int und_u8 g1
  obtain ⟨lo, e2, _, w2⟩ := DataW.trod_int und_u32 g2
  obtain ⟨_, h0⟩ := struct_ints bs_fields g3
  obtain ⟨s, hs0, ws⟩ := h0 0 .i64 rfl
  obtain ⟨t, ht0, wt⟩ := h0 1 .i64 rfl
  obtain ⟨A, n, c, l, e4, k1, k2, k3, k4⟩ := trod_smalls g4
  rw [cells_bool] at e0
  rw [cells_u8] at e1
  rw [cells_u32] at e2
  rw [cells_sms] at e4
  have a0 := one_of_take e0
  have a1 := one_of_take e1
  have a2 := one_of_take e2
  have a4 := one_of_take e4
  rw [cells_base, List.getElem?_take, List.getElem?_drop] at hs0 ht0
  simp only [Nat.reduceLT, if_true] at hs0 ht0
  have u1 := u8_wf w1
  have u2 := u32_wf w2
  have hn := smL_lenN k4
  subst hn
  refine ⟨⟨e, cpu.toNat, lo.toNat, ⟨s, t⟩, l⟩, A, c, ?_, ⟨by show cpu.toNat < 256; omega, by show lo.toNat < _; omega, ⟨i64_wf ws, i64_wf wt⟩, k3⟩, k1, k2, k4⟩
  congr 1
  apply Array.toList_inj.1
  refine (six_list hl6 a0 a1 a2 hs0 ht0 a4).trans ?_
  show _ = [Value.bool e, .int .u8 ((cpu.toNat : Nat) : Int), .int .u32 ((lo.toNat : Nat) : Int), .int .i64 s, .int .i64 t, .slice A l.length c]
  rw [Int.toNat_of_nonneg u1.1, Int.toNat_of_nonneg u2.1]
set_option maxRecDepth 100000 in
theorem arg_bk (hval : Value.okWide Tryd.prog W .any b0 37 v) (h : DataW.Trod enc Tryd.prog W 0 (fun _ => true) true 37 v d p) :
    ∃ (x : Bk) (A : Option Addr) (c : Nat), v = .agg (x.cells A c) ∧ x.Ok ∧ x.evs.length ≤ c ∧ c ≤ maxLen ∧ Rd W W.heap.size 11 A x.evs.length (x.evs.flatMap evL) := by
  obtain ⟨fs, hu⟩ := of_isStructT (show isStructT Tryd.prog 37 = true by kernel_rfl)
  obtain ⟨cs, rfl, hs⟩ := okWide_struct hu hval
  obtain ⟨fuel, hf⟩ := h
  have hf : DataW.trod enc Tryd.prog W 0 (fun _ => true) true fuel 37 cs.toList = some (d, p) := hf
  obtain ⟨hl, _, y0, g0⟩ := struct_field bk_f0 hf
  obtain ⟨_, _, y1, g1⟩ := struct_field bk_f1 hf
  obtain ⟨_, _, y2, g2⟩ := struct_field bk_f2 hf
  obtain ⟨_, _, y3, g3⟩ := struct_field bk_f3 hf
  obtain ⟨_, _, y4, g4⟩ := struct_field bk_f4 hf
  have hl5 : cs.toList.length = 5 := by rw [← bk_cells]; exact hl
  obtain ⟨kd, e0, _, w0⟩ := DataW.trod_int und_u8 g0
  obtain ⟨cpu, e1, _, w1⟩ := DataW.trod_int und_u8 g1
  obtain ⟨lo, e2, _, w2⟩ := DataW.trod_int und_int g2
  obtain ⟨nx, e3, _, w3⟩ := DataW.trod_int und_int g3
  obtain ⟨A, n, c, l, e4, k1, k2, k3, k4⟩ := trod_events g4
  rw [cells_u8] at e0 e1
  rw [cells_int] at e2 e3
  rw [cells_evs] at e4
  have a0 := one_of_take e0
  have a1 := one_of_take e1
  have a2 := one_of_take e2
  have a3 := one_of_take e3
  have a4 := one_of_take e4
  have u0 := u8_wf w0
  have u1 := u8_wf w1
  have hn := evL_lenN k4
  subst hn
  refine ⟨⟨kd.toNat, cpu.toNat, lo, nx, l⟩, A, c, ?_, ⟨by show kd.toNat < 256; omega, by show cpu.toNat < 256; omega, i64_wf w2, i64_wf w3, k3⟩, k1, k2, k4⟩
  congr 1
  apply Array.toList_inj.1
  refine (five_list hl5 a0 a1 a2 a3 a4).trans ?_
  show _ = [Value.int .u8 ((kd.toNat : Nat) : Int), .int .u8 ((cpu.toNat : Nat) : Int), .int .i64 lo, .int .i64 nx, .slice A l.length c]
  rw [Int.toNat_of_nonneg u0.1, Int.toNat_of_nonneg u1.1]
end
end Go.Proofs.YtjpielapplglmaaDoor

/- block.Fill: the walk. -/
set_option linter.all false
namespace Go.Proofs.YtjpielapplglmaaDoor
open Go.RowKit
set_option maxRecDepth 100000 in
set_option maxHeartbeats 4000000 in
theorem bfill_any (b : Bk) (hok : b.Ok) (A : Option Addr) (c B : Nat) (w : World) (hL : LaidX B w) (hB : B ≤ w.heap.size) (hr : Rd w w.heap.size 11 A b.evs.length (b.evs.flatMap evL)) (hn : b.evs.length ≤ 1000000) :
    Calls Tryd.prog 22 #[.agg (b.cells A c)] w (Is w (.tuple #[.int .i64 (b.fill.1 : Int), .int .i64 (b.fill.2 : Int)])) := by
  refine calls_enter (vs := [.agg (b.cells A c)]) Tryd.func22 rfl rfl (by kernel_rfl) (σ0 := [(0, .agg (b.cells A c))]) rfl ?_
  intro a HF
  have HM := Mem.start w
  refine wp_seq ?_
  refine from_start ?_
  refine from_op HF (i := 0) rfl rfl ?_
  refine e_box HF HM (cs := (b.cells A c)) rfl rfl rfl rfl (by decide) ?_
  clear HF HM; intro a w1 g1 HF HM
  refine from_pures HF 2 1 (j := 3) [(3, .int .i64 0), (2, .int .i64 0)] (by kernel_rfl) rfl ?_; clear HF; intro a HF
  refine from_done rfl ?_
  replace HF := HF.sub (σ' := [(3, .int .i64 0), (2, .int .i64 0), (1, .pointer (some ⟨g1, 0, none⟩))]) (by kernel_rfl)
  refine wp_seq ?_
  refine wp_seq ?_
  refine from_start ?_
  refine from_yl (S := fun wS => Mem w wS _) HF HM (i := 0) rfl rfl (d := 10) rfl (by decide) (v := .agg (b.cells A c)) (Yl.loadS rfl rfl si_bk rfl (fun _ h => range_of_block (h.blk (i := 0) rfl))) ?_; clear HF; intro a HF
  refine from_op HF (i := 1) rfl rfl ?_
  refine e_call HF (vs := [.agg (b.cells A c)]) rfl (by kernel_rfl) (by kernel_rfl) rfl (by decide) (fits_any b hok A c B _ (hL.mem HM hB) (HM.le hB) (HM.old hr) hn) ?_
  rintro _ w11 ⟨rfl, hbw⟩
  refine ⟨_, rfl, ?_⟩
  replace HM := HM.call hbw
  clear HF; intro a HF
  refine from_pures HF 1 2 (j := 3) [(12, .bool (!b.fits))] (by kernel_rfl) rfl ?_; clear HF; intro a HF
  refine from_done rfl ?_
  replace HF := HF.sub (σ' := [(12, .bool (!b.fits)), (3, .int .i64 0), (2, .int .i64 0), (1, .pointer (some ⟨g1, 0, none⟩))]) (by kernel_rfl)
  rcases Bool.eq_false_or_eq_true (!b.fits) with hb12 | hb12
  · have HF := HF.as (t := 12) (u := .bool true) rfl (by rw [hb12])
    have hf : b.fits = false := by simpa using hb12
    refine cond_true HF rfl ?_
    refine wp_seq ?_
    refine from_start ?_
    refine from_pures HF 2 0 (j := 2) [(3, .int .i64 107), (2, .int .i64 0)] (by kernel_rfl) rfl ?_; clear HF; intro a HF
    refine from_done rfl ?_
    replace HF := HF.sub (σ' := [(3, .int .i64 107), (2, .int .i64 0), (12, .bool true), (1, .pointer (some ⟨g1, 0, none⟩))]) (by kernel_rfl)
    refine wp_ret ?_
    exact ret2 rfl HF (.tmp HF rfl) (.tmp HF rfl) (fill_is (by unfold Bk.fill; rw [if_pos hf]) HM.below)
  · have HF := HF.as (t := 12) (u := .bool false) rfl (by rw [hb12])
    have hf : b.fits = true := by simpa using hb12
    refine cond_false HF rfl ?_
    refine wp_skip ?_
    refine wp_seq ?_
    refine wp_seq ?_
    refine from_start ?_
    refine from_pures HF 1 0 (j := 1) [(13, .pointer (some ⟨g1, 4, none⟩))] (by kernel_rfl) rfl ?_; clear HF; intro a HF
    refine from_yl (S := fun wS => Mem w wS _) HF HM (i := 1) rfl rfl (d := 14) rfl (by decide) (v := .slice A b.evs.length c) (Yl.load1 rfl rfl (by kernel_rfl) (fun _ h => h.cell (i := 0) rfl rfl)) ?_; clear HF; intro a HF
    refine from_yl (S := fun wS => Mem w wS _) HF HM (i := 2) rfl rfl (d := 15) rfl (by decide) (v := .int .i64 ((b.evs.length : Nat) : Int)) (Yl.len rfl rfl (by kernel_rfl)) ?_; clear HF; intro a HF
    refine from_pures HF 1 3 (j := 4) [(16, .bool ((((b.evs.length : Nat) : Int) : Int) == (0 : Int)))] (by kernel_rfl) rfl ?_; clear HF; intro a HF
    refine from_done rfl ?_
    replace HF := HF.sub (σ' := [(16, .bool ((((b.evs.length : Nat) : Int) : Int) == (0 : Int))), (12, .bool false), (3, .int .i64 0), (2, .int .i64 0), (1, .pointer (some ⟨g1, 0, none⟩))]) (by kernel_rfl)
    rcases Bool.eq_false_or_eq_true ((((b.evs.length : Nat) : Int) : Int) == (0 : Int)) with hb16 | hb16
    · have HF := HF.as (t := 16) (u := .bool true) rfl (by rw [hb16])
      have hd16 := eq_of_beq hb16
      refine cond_true HF rfl ?_
      refine wp_seq ?_
      refine from_start ?_
      refine from_pures HF 2 0 (j := 2) [(3, .int .i64 0), (2, .int .i64 0)] (by kernel_rfl) rfl ?_; clear HF; intro a HF
      refine from_done rfl ?_
      replace HF := HF.sub (σ' := [(3, .int .i64 0), (2, .int .i64 0), (16, .bool true), (12, .bool false), (1, .pointer (some ⟨g1, 0, none⟩))]) (by kernel_rfl)
      refine wp_ret ?_
      exact ret2 rfl HF (.tmp HF rfl) (.tmp HF rfl) (fill_is (by unfold Bk.fill; rw [if_neg (by rw [hf]; decide), fillN_all (fun i hi => absurd hi (by omega)), show b.evs.length = 0 by omega]) HM.below)
    · have HF := HF.as (t := 16) (u := .bool false) rfl (by rw [hb16])
      have hd16 := ne_of_beq_false hb16
      have hk : b.kind ≠ 2 := fun h2 => by have := fits_next hf h2; omega
      obtain ⟨m0, m1, m2, m3, m4⟩ := fits_lost hf hk
      obtain ⟨q1, q2, q3, q4⟩ := base_bnd hok hf hk (by omega)
      obtain ⟨e0, r0, g0⟩ := fits_row hok (fits_evs hf hk).2 (by omega)
      have hch := g0.chain
      rw [← g0.base] at hch
      refine cond_false HF rfl ?_
      refine wp_skip ?_
      refine wp_seq ?_
      refine from_start ?_
      refine from_yl (S := fun wS => Mem w wS _) HF HM (i := 0) rfl rfl (d := 17) rfl (by decide) (v := .agg (b.cells A c)) (Yl.loadS rfl rfl si_bk rfl (fun _ h => range_of_block (h.blk (i := 0) rfl))) ?_; clear HF; intro a HF
      refine from_op HF (i := 1) rfl rfl ?_
      refine e_call HF (vs := [.agg (b.cells A c)]) rfl (by kernel_rfl) (by kernel_rfl) rfl (by decide) (base_any b A c _ (HM.old hr) (by omega)) ?_
      rintro _ w18 ⟨rfl, hbw⟩
      refine ⟨_, rfl, ?_⟩
      replace HM := HM.call hbw
      clear HF; intro a HF
      refine from_op HF (i := 2) rfl rfl ?_
      refine e_alloc HF HM (cs := #[.int .i64 0, .int .i64 0]) rfl (by kernel_rfl) rfl (by decide) ?_
      clear HF HM; intro a w4 g4 HF HM
      refine from_op HF (i := 3) rfl rfl ?_
      refine e_storeAll HF HM (i := 0) (cs := #[.int .i64 0, .int .i64 0]) (ds := b.base.cells) rfl rfl rfl rfl ⟨(by kernel_rfl), (by kernel_rfl)⟩ rfl rfl (bs_one b.base) rfl ?_
      clear HM; intro w5_3 HM
      refine from_done rfl ?_
      replace HF := HF.sub (σ' := [(4, .pointer (some ⟨g4, 0, none⟩)), (16, .bool false), (12, .bool false), (3, .int .i64 0), (2, .int .i64 0), (1, .pointer (some ⟨g1, 0, none⟩))]) (by kernel_rfl)
      refine wp_seq ?_
      refine from_start ?_
      refine from_pures HF 1 0 (j := 1) [(19, .pointer (some ⟨g1, 1, none⟩))] (by kernel_rfl) rfl ?_; clear HF; intro a HF
      refine from_yl (S := fun wS => Mem w wS _) HF HM (i := 1) rfl rfl (d := 20) rfl (by decide) (v := .int .u8 (b.cpu : Int)) (Yl.load1 rfl rfl (by kernel_rfl) (fun _ h => h.cell (i := 1) rfl rfl)) ?_; clear HF; intro a HF
      refine from_pures HF 1 2 (j := 3) [(21, .int .u64 (IntKind.u64.wrap (b.cpu : Int)))] (by kernel_rfl) rfl ?_; clear HF; intro a HF
      replace HF := HF.as (t := 21) (u := .int .u64 (b.cpu : Int)) rfl (u64_nat rfl (by omega))
      refine from_pures HF 1 3 (j := 4) [(22, .pointer (some ⟨g1, 2, none⟩))] (by kernel_rfl) rfl ?_; clear HF; intro a HF
      refine from_yl (S := fun wS => Mem w wS _) HF HM (i := 4) rfl rfl (d := 23) rfl (by decide) (v := .int .i64 b.lost) (Yl.load1 rfl rfl (by kernel_rfl) (fun _ h => h.cell (i := 1) rfl rfl)) ?_; clear HF; intro a HF
      refine from_pures HF 1 5 (j := 6) [(24, .int .u64 (IntKind.u64.wrap b.lost))] (by kernel_rfl) rfl ?_; clear HF; intro a HF
      replace HF := HF.as (t := 24) (u := .int .u64 (b.lost.toNat : Int)) rfl (u64_nat (by omega) (by omega))
      refine from_pures HF 1 6 (j := 7) [(25, .pointer (some ⟨g4, 0, none⟩))] (by kernel_rfl) rfl ?_; clear HF; intro a HF
      refine from_yl (S := fun wS => Mem w wS _) HF HM (i := 7) rfl rfl (d := 26) rfl (by decide) (v := .int .i64 b.base.seq) (Yl.load1 rfl rfl (by kernel_rfl) (fun _ h => h.cell (i := 0) rfl rfl)) ?_; clear HF; intro a HF
      refine from_pures HF 1 8 (j := 9) [(27, .int .u64 (IntKind.u64.wrap b.base.seq))] (by kernel_rfl) rfl ?_; clear HF; intro a HF
      replace HF := HF.as (t := 27) (u := .int .u64 (b.base.seq.toNat : Int)) rfl (u64_nat (by omega) (by omega))
      refine from_pures HF 1 9 (j := 10) [(28, .pointer (some ⟨g4, 1, none⟩))] (by kernel_rfl) rfl ?_; clear HF; intro a HF
      refine from_yl (S := fun wS => Mem w wS _) HF HM (i := 10) rfl rfl (d := 29) rfl (by decide) (v := .int .i64 b.base.time) (Yl.load1 rfl rfl (by kernel_rfl) (fun _ h => h.cell (i := 0) rfl rfl)) ?_; clear HF; intro a HF
      refine from_pures HF 1 11 (j := 12) [(30, .int .u64 (IntKind.u64.wrap b.base.time))] (by kernel_rfl) rfl ?_; clear HF; intro a HF
      replace HF := HF.as (t := 30) (u := .int .u64 (b.base.time.toNat : Int)) rfl (u64_nat (by omega) (by omega))
      refine from_op HF (i := 12) rfl rfl ?_
      refine e_slice HF HM (vs := [(0, .int .u64 (b.cpu : Int)), (1, .int .u64 (b.lost.toNat : Int)), (2, .int .u64 (b.base.seq.toNat : Int)), (3, .int .u64 (b.base.time.toNat : Int))]) (cs := #[.int .u64 (b.cpu : Int), .int .u64 (b.lost.toNat : Int), .int .u64 (b.base.seq.toNat : Int), .int .u64 (b.base.time.toNat : Int)]) rfl ei_u64 (by decide) rfl (by kernel_rfl) rfl (by decide) ?_
      clear HF HM; intro a w31 g31 HF HM
      refine from_op HF (i := 13) rfl rfl ?_
      refine e_call HF (vs := [.slice (some ⟨g31, 0, none⟩) 4 4]) rfl (by kernel_rfl) (by kernel_rfl) rfl (by decide) (vall_is _ 4 _ [b.cpu, b.lost.toNat, b.base.seq.toNat, b.base.time.toNat] _ (HM.rdBlk (i := 0) (n := 4) (size := 1) rfl rfl) (by intro x hx; simp only [List.mem_cons, List.not_mem_nil, or_false] at hx; omega) (by omega)) ?_
      rintro _ w32 ⟨⟨A32, c32, rfl, ho, hc32⟩, hbw⟩
      refine ⟨_, rfl, ?_⟩
      replace HM := HM.callRow hbw ho
      clear HF; intro a HF
      have hfl := flat_length [b.cpu, b.lost.toNat, b.base.seq.toNat, b.base.time.toNat]
      refine from_yl (S := fun wS => Mem w wS _) HF HM (i := 14) rfl rfl (d := 33) rfl (by decide) (v := .int .i64 ((([b.cpu, b.lost.toNat, b.base.seq.toNat, b.base.time.toNat].flatMap vbytes).length : Nat) : Int)) (Yl.len rfl rfl (by kernel_rfl)) ?_; clear HF; intro a HF
      refine from_pures HF 1 15 (j := 16) [(34, .int .i64 (IntKind.i64.wrap (8 + ((([b.cpu, b.lost.toNat, b.base.seq.toNat, b.base.time.toNat].flatMap vbytes).length : Nat) : Int))))] (by kernel_rfl) rfl ?_; clear HF; intro a HF
      replace HF := HF.as (t := 34) (u := .int .i64 ((8 + ([b.cpu, b.lost.toNat, b.base.seq.toNat, b.base.time.toNat].flatMap vbytes).length : Nat) : Int)) rfl (i64_nat (by omega) (by simp only [List.length_cons, List.length_nil] at hfl; omega))
      refine from_pures HF 1 16 (j := 17) [(35, .int .i64 (IntKind.i64.wrap (((8 + ([b.cpu, b.lost.toNat, b.base.seq.toNat, b.base.time.toNat].flatMap vbytes).length : Nat) : Int) + 4)))] (by kernel_rfl) rfl ?_; clear HF; intro a HF
      replace HF := HF.as (t := 35) (u := .int .i64 (b.sz 0 : Int)) rfl (i64_nat (by rw [sz_zero]; omega) (by have := sz_le b 0; omega))
      refine from_pures HF 1 17 (j := 18) [(5, .int .i64 (b.sz 0 : Int))] (by kernel_rfl) rfl ?_; clear HF; intro a HF
      refine from_done rfl ?_
      replace HF := HF.sub (σ' := [(5, .int .i64 (b.sz 0 : Int)), (4, .pointer (some ⟨g4, 0, none⟩)), (16, .bool false), (12, .bool false), (3, .int .i64 0), (2, .int .i64 0), (1, .pointer (some ⟨g1, 0, none⟩))]) (by kernel_rfl)
      replace HM := HM.picks (fs' := [.blk g4 b.base.cells 27, .blk g1 (b.cells A c) 37]) [2, 3] (by decide) rfl
      refine wp_seq ?_
      refine wp_seq ?_
      refine from_start ?_
      refine from_pures HF 1 0 (j := 1) [(36, .pointer (some ⟨g1, 4, none⟩))] (by kernel_rfl) rfl ?_; clear HF; intro a HF
      refine from_yl (S := fun wS => Mem w wS _) HF HM (i := 1) rfl rfl (d := 37) rfl (by decide) (v := .slice A b.evs.length c) (Yl.load1 rfl rfl (by kernel_rfl) (fun _ h => h.cell (i := 1) rfl rfl)) ?_; clear HF; intro a HF
      refine from_yl (S := fun wS => Mem w wS _) HF HM (i := 2) rfl rfl (d := 38) rfl (by decide) (v := .int .i64 ((b.evs.length : Nat) : Int)) (Yl.len rfl rfl (by kernel_rfl)) ?_; clear HF; intro a HF
      refine from_pures HF 1 3 (j := 4) [(39, .int .i64 0)] (by kernel_rfl) rfl ?_; clear HF; intro a HF
      refine from_done rfl ?_
      replace HF := HF.sub (σ' := [(39, .int .i64 0), (38, .int .i64 ((b.evs.length : Nat) : Int)), (37, .slice A b.evs.length c), (5, .int .i64 (b.sz 0 : Int)), (4, .pointer (some ⟨g4, 0, none⟩)), (16, .bool false), (12, .bool false), (3, .int .i64 0), (2, .int .i64 0), (1, .pointer (some ⟨g1, 0, none⟩))]) (by kernel_rfl)
      refine wp_block ?_
      refine loop_nat (fun mS aS wS => ∃ (k : Nat), (k ≤ b.evs.length) ∧ (∀ i, i < k → b.big (i + 1) = false) ∧ mS = b.evs.length - k ∧ Fr aS 70 [] [(39, .int .i64 (k : Int)), (38, .int .i64 ((b.evs.length : Nat) : Int)), (37, .slice A b.evs.length c), (5, .int .i64 (b.sz k : Int)), (4, .pointer (some ⟨g4, 0, none⟩)), (16, .bool false), (12, .bool false), (3, .int .i64 0), (2, .int .i64 0), (1, .pointer (some ⟨g1, 0, none⟩))] ∧ Mem w wS [.blk g4 ((b.atK k).cells) 27, .blk g1 (b.cells A c) 37]) (m := b.evs.length - 0) ⟨0, Nat.zero_le _, fun i hi => absurd hi (Nat.not_lt_zero _), rfl, HF.sub (by kernel_rfl), HM.picks [0, 1] (by decide) rfl⟩ ?_
      clear HF HM; rintro mS a w_ ⟨k, hk0, hno, rfl, HF, HM⟩
      refine wp_seq ?_
      refine from_start ?_
      refine from_pures HF 1 0 (j := 1) [(40, .bool (decide (((k : Int) : Int) < (((b.evs.length : Nat) : Int) : Int))))] (by kernel_rfl) rfl ?_; clear HF; intro a HF
      refine from_done rfl ?_
      refine wp_seq ?_
      rcases Bool.eq_false_or_eq_true (decide (((k : Int) : Int) < (((b.evs.length : Nat) : Int) : Int))) with hb40 | hb40
      · have HF := HF.as (t := 40) (u := .bool true) rfl (by rw [hb40])
        have hd40 := of_decide_eq_true hb40
        have hk40 : k < b.evs.length := by omega
        have hp := fit_put (chain_fit b.evs none b.base k hch hk40)
        have hs0 := sz_le b k
        have hs1 := sz_le b (k + 1)
        have hvb := vbytes_length (k + 1)
        refine cond_true HF rfl ?_
        refine wp_skip ?_
        refine wp_seq ?_
        refine wp_block ?_
        refine wp_seq ?_
        refine from_start ?_
        refine from_pures HF 1 0 (j := 1) [(41, .int .i64 (k : Int))] (by kernel_rfl) rfl ?_; clear HF; intro a HF
        obtain ⟨gA, oA, rfl, _⟩ := hr.some_at (Nat.lt_of_le_of_lt (Nat.zero_le _) (show k < b.evs.length from by omega)) (by decide)
        refine from_yl (S := fun wS => Mem w wS _) HF HM (i := 1) rfl rfl (d := 42) rfl (by decide) (v := .pointer (some ⟨gA, oA + k * 11, none⟩)) ((Yl.indexAddr (ad := ⟨gA, oA, none⟩) (y := k) (sz := 11) rfl rfl rfl (by omega) (by kernel_rfl)).as (by rw [Addr.add_mid])) ?_; clear HF; intro a HF
        refine from_yl (S := fun wS => Mem w wS _) HF HM (i := 2) rfl rfl (d := 43) rfl (by decide) (v := .agg ((b.evs.getD k Ev.zero).cells)) (Yl.loadS rfl rfl ⟨(by kernel_rfl), (by kernel_rfl)⟩ rfl (fun _ h => (h.old hr).structAt evL_len ((getD_at Ev.zero (k := k) (by first | omega | (simp; omega)))))) ?_; clear HF; intro a HF
        refine from_op HF (i := 3) rfl rfl ?_
        refine e_alloc HF HM (cs := #[.int .i64 0, .int .i64 0, .int .u8 0, .int .u8 0, .int .i64 0, .int .i64 0, .int .i64 0, .int .i64 0, .int .i64 0, .int .u64 0, .int .i64 0]) rfl (by kernel_rfl) rfl (by decide) ?_
        clear HF HM; intro a w7 g7 HF HM
        refine from_pures HF 1 4 (j := 5) [(6, .int .i64 (k : Int))] (by kernel_rfl) rfl ?_; clear HF; intro a HF
        refine from_op HF (i := 5) rfl rfl ?_
        refine e_storeAll HF HM (i := 0) (cs := #[.int .i64 0, .int .i64 0, .int .u8 0, .int .u8 0, .int .i64 0, .int .i64 0, .int .i64 0, .int .i64 0, .int .i64 0, .int .u64 0, .int .i64 0]) (ds := (b.evs.getD k Ev.zero).cells) rfl rfl rfl rfl ⟨(by kernel_rfl), (by kernel_rfl)⟩ rfl rfl (ev_one (b.evs.getD k Ev.zero)) rfl ?_
        clear HM; intro w9_5 HM
        refine from_done rfl ?_
        replace HF := HF.sub (σ' := [(6, .int .i64 (k : Int)), (7, .pointer (some ⟨g7, 0, none⟩)), (40, .bool true), (39, .int .i64 (k : Int)), (38, .int .i64 ((b.evs.length : Nat) : Int)), (37, .slice (some ⟨gA, oA, none⟩) b.evs.length c), (5, .int .i64 (b.sz k : Int)), (4, .pointer (some ⟨g4, 0, none⟩)), (16, .bool false), (12, .bool false), (3, .int .i64 0), (2, .int .i64 0), (1, .pointer (some ⟨g1, 0, none⟩))]) (by kernel_rfl)
        refine wp_seq ?_
        refine from_start ?_
        refine from_yl (S := fun wS => Mem w wS _) HF HM (i := 0) rfl rfl (d := 45) rfl (by decide) (v := .agg ((b.atK k).cells)) (Yl.loadS rfl rfl ⟨(by kernel_rfl), (by kernel_rfl)⟩ rfl (fun _ h => range_of_block (h.blk (i := 1) rfl))) ?_; clear HF; intro a HF
        refine from_yl (S := fun wS => Mem w wS _) HF HM (i := 1) rfl rfl (d := 46) rfl (by decide) (v := .agg ((b.evs.getD k Ev.zero).cells)) (Yl.loadS rfl rfl ⟨(by kernel_rfl), (by kernel_rfl)⟩ rfl (fun _ h => range_of_block (h.blk (i := 0) rfl))) ?_; clear HF; intro a HF
        refine from_op HF (i := 2) rfl rfl ?_
        refine e_call HF (vs := [.agg ((b.atK k).cells), .agg ((b.evs.getD k Ev.zero).cells)]) rfl (by kernel_rfl) (by kernel_rfl) rfl (by decide) (size_is (b.atK k) (b.evs.getD k Ev.zero) (hok.evs _ (getD_mem _ (by omega))) B _ (hL.mem HM hB).laid (HM.le hB) (congrArg List.length hp.2) hp.1) ?_
        rintro _ w47 ⟨rfl, hbw⟩
        refine ⟨_, rfl, ?_⟩
        replace HM := HM.call hbw
        clear HF; intro a HF
        refine from_pures HF 5 3 (j := 8) [(9, .int .i64 0), (8, .int .i64 ((recBytes (b.atK k) (b.evs.getD k Ev.zero)).length : Int)), (49, .int .i64 0), (48, .int .i64 ((recBytes (b.atK k) (b.evs.getD k Ev.zero)).length : Int)), (44, .tuple #[.int .i64 ((recBytes (b.atK k) (b.evs.getD k Ev.zero)).length : Int), .int .i64 0])] (by kernel_rfl) rfl ?_; clear HF; intro a HF
        refine from_done rfl ?_
        replace HF := HF.sub (σ' := [(8, .int .i64 ((recBytes (b.atK k) (b.evs.getD k Ev.zero)).length : Int)), (6, .int .i64 (k : Int)), (7, .pointer (some ⟨g7, 0, none⟩)), (40, .bool true), (39, .int .i64 (k : Int)), (38, .int .i64 ((b.evs.length : Nat) : Int)), (37, .slice (some ⟨gA, oA, none⟩) b.evs.length c), (5, .int .i64 (b.sz k : Int)), (4, .pointer (some ⟨g4, 0, none⟩)), (16, .bool false), (12, .bool false), (3, .int .i64 0), (2, .int .i64 0), (1, .pointer (some ⟨g1, 0, none⟩))]) (by kernel_rfl)
        refine wp_seq ?_
        refine from_start ?_
        refine from_pures HF 3 0 (j := 3) [(52, .int .i64 (IntKind.i64.wrap ((b.sz k : Int) + ((recBytes (b.atK k) (b.evs.getD k Ev.zero)).length : Int)))), (51, .int .i64 ((recBytes (b.atK k) (b.evs.getD k Ev.zero)).length : Int)), (50, .int .i64 (b.sz k : Int))] (by kernel_rfl) rfl ?_; clear HF; intro a HF
        replace HF := HF.as (t := 52) (u := .int .i64 (b.sz (k + 1) : Int)) rfl (i64_nat (by rw [sz_succ (by omega)]; omega) (by omega))
        refine from_pures HF 1 3 (j := 4) [(5, .int .i64 (b.sz (k + 1) : Int))] (by kernel_rfl) rfl ?_; clear HF; intro a HF
        refine from_done rfl ?_
        replace HF := HF.sub (σ' := [(5, .int .i64 (b.sz (k + 1) : Int)), (8, .int .i64 ((recBytes (b.atK k) (b.evs.getD k Ev.zero)).length : Int)), (6, .int .i64 (k : Int)), (7, .pointer (some ⟨g7, 0, none⟩)), (40, .bool true), (39, .int .i64 (k : Int)), (38, .int .i64 ((b.evs.length : Nat) : Int)), (37, .slice (some ⟨gA, oA, none⟩) b.evs.length c), (4, .pointer (some ⟨g4, 0, none⟩)), (16, .bool false), (12, .bool false), (3, .int .i64 0), (2, .int .i64 0), (1, .pointer (some ⟨g1, 0, none⟩))]) (by kernel_rfl)
        refine wp_seq ?_
        refine wp_seq ?_
        refine from_start ?_
        refine from_pures HF 3 0 (j := 3) [(55, .int .i64 (IntKind.i64.wrap ((k : Int) + 1))), (54, .int .i64 (k : Int)), (53, .int .i64 (b.sz (k + 1) : Int))] (by kernel_rfl) rfl ?_; clear HF; intro a HF
        replace HF := HF.as (t := 55) (u := .int .i64 ((k + 1 : Nat) : Int)) rfl (i64_nat (by omega) (by omega))
        refine from_pures HF 1 3 (j := 4) [(56, .int .u64 (IntKind.u64.wrap ((k + 1 : Nat) : Int)))] (by kernel_rfl) rfl ?_; clear HF; intro a HF
        replace HF := HF.as (t := 56) (u := .int .u64 ((k + 1 : Nat) : Int)) rfl (u64_nat rfl (by omega))
        refine from_op HF (i := 4) rfl rfl ?_
        refine e_call HF (vs := [.int .u64 ((k + 1 : Nat) : Int)]) rfl (by kernel_rfl) (by kernel_rfl) rfl (by decide) (vsize_any (k + 1) _ (by omega)) ?_
        rintro _ w57 ⟨rfl, hbw⟩
        refine ⟨_, rfl, ?_⟩
        replace HM := HM.call hbw
        clear HF; intro a HF
        refine from_pures HF 1 5 (j := 6) [(58, .int .i64 (IntKind.i64.wrap ((b.sz (k + 1) : Int) + ((vbytes (k + 1)).length : Int))))] (by kernel_rfl) rfl ?_; clear HF; intro a HF
        replace HF := HF.as (t := 58) (u := .int .i64 ((b.sz (k + 1) + ((vbytes (k + 1)).length) : Nat) : Int)) rfl (i64_nat (by omega) (by omega))
        refine from_pures HF 1 6 (j := 7) [(59, .bool (decide ((((b.sz (k + 1) + ((vbytes (k + 1)).length) : Nat) : Int) : Int) > (4096 : Int))))] (by kernel_rfl) rfl ?_; clear HF; intro a HF
        refine from_done rfl ?_
        replace HF := HF.sub (σ' := [(59, .bool (decide ((((b.sz (k + 1) + ((vbytes (k + 1)).length) : Nat) : Int) : Int) > (4096 : Int)))), (5, .int .i64 (b.sz (k + 1) : Int)), (8, .int .i64 ((recBytes (b.atK k) (b.evs.getD k Ev.zero)).length : Int)), (6, .int .i64 (k : Int)), (7, .pointer (some ⟨g7, 0, none⟩)), (40, .bool true), (39, .int .i64 (k : Int)), (38, .int .i64 ((b.evs.length : Nat) : Int)), (37, .slice (some ⟨gA, oA, none⟩) b.evs.length c), (4, .pointer (some ⟨g4, 0, none⟩)), (16, .bool false), (12, .bool false), (3, .int .i64 0), (2, .int .i64 0), (1, .pointer (some ⟨g1, 0, none⟩))]) (by kernel_rfl)
        rcases Bool.eq_false_or_eq_true (decide ((((b.sz (k + 1) + ((vbytes (k + 1)).length) : Nat) : Int) : Int) > (4096 : Int))) with hb59 | hb59
        · have HF := HF.as (t := 59) (u := .bool true) rfl (by rw [hb59])
          have hd59 := of_decide_eq_true hb59
          refine cond_true HF rfl ?_
          refine wp_seq ?_
          refine from_start ?_
          refine from_pures HF 3 0 (j := 3) [(3, .int .i64 0), (2, .int .i64 (k : Int)), (60, .int .i64 (k : Int))] (by kernel_rfl) rfl ?_; clear HF; intro a HF
          refine from_done rfl ?_
          replace HF := HF.sub (σ' := [(3, .int .i64 0), (2, .int .i64 (k : Int)), (59, .bool true), (5, .int .i64 (b.sz (k + 1) : Int)), (8, .int .i64 ((recBytes (b.atK k) (b.evs.getD k Ev.zero)).length : Int)), (6, .int .i64 (k : Int)), (7, .pointer (some ⟨g7, 0, none⟩)), (40, .bool true), (39, .int .i64 (k : Int)), (38, .int .i64 ((b.evs.length : Nat) : Int)), (37, .slice (some ⟨gA, oA, none⟩) b.evs.length c), (4, .pointer (some ⟨g4, 0, none⟩)), (16, .bool false), (12, .bool false), (1, .pointer (some ⟨g1, 0, none⟩))]) (by kernel_rfl)
          refine wp_ret ?_
          exact ret2 rfl HF (.tmp HF rfl) (.tmp HF rfl) (fill_is (by unfold Bk.fill; rw [if_neg (by rw [hf]; decide), fillN_at hk40 hno (by unfold Bk.big; rw [decide_eq_true]; omega)]) HM.below)
        · have HF := HF.as (t := 59) (u := .bool false) rfl (by rw [hb59])
          have hd59 := of_decide_eq_false hb59
          refine cond_false HF rfl ?_
          refine wp_skip ?_
          refine from_start ?_
          refine from_pures HF 1 0 (j := 1) [(61, .pointer (some ⟨g7, 0, none⟩))] (by kernel_rfl) rfl ?_; clear HF; intro a HF
          refine from_yl (S := fun wS => Mem w wS _) HF HM (i := 1) rfl rfl (d := 62) rfl (by decide) (v := .int .i64 ((b.evs.getD k Ev.zero).seq)) (Yl.load1 rfl rfl (by kernel_rfl) (fun _ h => h.cell (i := 0) rfl rfl)) ?_; clear HF; intro a HF
          refine from_pures HF 1 2 (j := 3) [(63, .pointer (some ⟨g7, 1, none⟩))] (by kernel_rfl) rfl ?_; clear HF; intro a HF
          refine from_yl (S := fun wS => Mem w wS _) HF HM (i := 3) rfl rfl (d := 64) rfl (by decide) (v := .int .i64 ((b.evs.getD k Ev.zero).time)) (Yl.load1 rfl rfl (by kernel_rfl) (fun _ h => h.cell (i := 0) rfl rfl)) ?_; clear HF; intro a HF
          refine from_yl (S := fun wS => Mem w wS _) HF HM (i := 4) rfl rfl (d := 65) rfl (by decide) (v := .agg #[.int .i64 ((b.evs.getD k Ev.zero).seq), .int .i64 ((b.evs.getD k Ev.zero).time)]) (Yl.build (vs := [(0, .int .i64 ((b.evs.getD k Ev.zero).seq)), (1, .int .i64 ((b.evs.getD k Ev.zero).time))]) rfl (by kernel_rfl) (by kernel_rfl)) ?_; clear HF; intro a HF
          refine from_op HF (i := 5) rfl rfl ?_
          refine e_storeAll HF HM (i := 1) (cs := (b.atK k).cells) (ds := #[.int .i64 ((b.evs.getD k Ev.zero).seq), .int .i64 ((b.evs.getD k Ev.zero).time)]) rfl rfl rfl rfl ⟨(by kernel_rfl), (by kernel_rfl)⟩ rfl rfl (by simp [Value.oneCell']) rfl ?_
          clear HM; intro w14_5 HM
          refine from_done rfl ?_
          replace HF := HF.sub (σ' := [(59, .bool false), (5, .int .i64 (b.sz (k + 1) : Int)), (8, .int .i64 ((recBytes (b.atK k) (b.evs.getD k Ev.zero)).length : Int)), (6, .int .i64 (k : Int)), (7, .pointer (some ⟨g7, 0, none⟩)), (40, .bool true), (39, .int .i64 (k : Int)), (38, .int .i64 ((b.evs.length : Nat) : Int)), (37, .slice (some ⟨gA, oA, none⟩) b.evs.length c), (4, .pointer (some ⟨g4, 0, none⟩)), (16, .bool false), (12, .bool false), (3, .int .i64 0), (2, .int .i64 0), (1, .pointer (some ⟨g1, 0, none⟩))]) (by kernel_rfl)
          refine from_start ?_
          refine from_pures HF 1 0 (j := 1) [(66, .int .i64 (IntKind.i64.wrap ((k : Int) + 1)))] (by kernel_rfl) rfl ?_; clear HF; intro a HF
          replace HF := HF.as (t := 66) (u := .int .i64 ((k + 1 : Nat) : Int)) rfl (i64_nat (by omega) (by omega))
          refine from_pures HF 1 1 (j := 2) [(39, .int .i64 ((k + 1 : Nat) : Int))] (by kernel_rfl) rfl ?_; clear HF; intro a HF
          refine from_done rfl ?_
          replace HF := HF.sub (σ' := [(39, .int .i64 ((k + 1 : Nat) : Int)), (59, .bool false), (5, .int .i64 (b.sz (k + 1) : Int)), (8, .int .i64 ((recBytes (b.atK k) (b.evs.getD k Ev.zero)).length : Int)), (6, .int .i64 (k : Int)), (7, .pointer (some ⟨g7, 0, none⟩)), (40, .bool true), (38, .int .i64 ((b.evs.length : Nat) : Int)), (37, .slice (some ⟨gA, oA, none⟩) b.evs.length c), (4, .pointer (some ⟨g4, 0, none⟩)), (16, .bool false), (12, .bool false), (3, .int .i64 0), (2, .int .i64 0), (1, .pointer (some ⟨g1, 0, none⟩))]) (by kernel_rfl)
          exact ⟨_, (by omega), k + 1, by omega, fun i hi => (Nat.lt_succ_iff_lt_or_eq.1 hi).elim (hno i) (fun h => by subst h; unfold Bk.big; rw [decide_eq_false]; omega), rfl, HF.sub (by kernel_rfl), HM.picks [1, 2] (by decide) rfl⟩
      · have HF := HF.as (t := 40) (u := .bool false) rfl (by rw [hb40])
        have hd40 := of_decide_eq_false hb40
        have hke : k = b.evs.length := by omega
        refine cond_false HF rfl ?_
        refine wp_exit ?_
        refine wp_seq ?_
        refine from_start ?_
        refine from_pures HF 1 0 (j := 1) [(67, .pointer (some ⟨g1, 4, none⟩))] (by kernel_rfl) rfl ?_; clear HF; intro a HF
        refine from_yl (S := fun wS => Mem w wS _) HF HM (i := 1) rfl rfl (d := 68) rfl (by decide) (v := .slice A b.evs.length c) (Yl.load1 rfl rfl (by kernel_rfl) (fun _ h => h.cell (i := 1) rfl rfl)) ?_; clear HF; intro a HF
        refine from_yl (S := fun wS => Mem w wS _) HF HM (i := 2) rfl rfl (d := 69) rfl (by decide) (v := .int .i64 ((b.evs.length : Nat) : Int)) (Yl.len rfl rfl (by kernel_rfl)) ?_; clear HF; intro a HF
        refine from_pures HF 2 3 (j := 5) [(3, .int .i64 0), (2, .int .i64 ((b.evs.length : Nat) : Int))] (by kernel_rfl) rfl ?_; clear HF; intro a HF
        refine from_done rfl ?_
        replace HF := HF.sub (σ' := [(3, .int .i64 0), (2, .int .i64 ((b.evs.length : Nat) : Int)), (40, .bool false), (39, .int .i64 (k : Int)), (38, .int .i64 ((b.evs.length : Nat) : Int)), (37, .slice A b.evs.length c), (5, .int .i64 (b.sz k : Int)), (4, .pointer (some ⟨g4, 0, none⟩)), (16, .bool false), (12, .bool false), (1, .pointer (some ⟨g1, 0, none⟩))]) (by kernel_rfl)
        refine wp_ret ?_
        exact ret2 rfl HF (.tmp HF rfl) (.tmp HF rfl) (fill_is (by unfold Bk.fill; rw [if_neg (by rw [hf]; decide), fillN_all (fun i hi => hno i (by omega))]) HM.below)
end Go.Proofs.YtjpielapplglmaaDoor

/- What Fill tells of a row that fits: plain; a row behind its beginning, in memory. -/
namespace Go.Proofs.YtjpielapplglmaaDoor
open Go.RowKit

theorem chain_none {cpu : Nat} {p : Option Ev} {b : Bs} : ∀ {l : List Ev}, Chain cpu p b l → Chain cpu none b l
  | [], _ => trivial
  | _ :: _, h => ⟨h.1, h.2.1, (fun q hq => by cases hq), h.2.2.2⟩
theorem chain_take {cpu : Nat} : ∀ (l : List Ev) (p : Option Ev) (b : Bs) (k : Nat), Chain cpu p b l → Chain cpu p b (l.take k)
  | [], _, _, k, _ => by rw [List.take_nil]; trivial
  | _ :: _, _, _, 0, _ => trivial
  | e :: r, _, _, k + 1, h => ⟨h.1, h.2.1, h.2.2.1, chain_take r (some e) e.at k h.2.2.2⟩
theorem chain_drop {cpu : Nat} : ∀ (l : List Ev) (p : Option Ev) (b : Bs) (k : Nat), Chain cpu p b l → ∃ b', Chain cpu none b' (l.drop k)
  | _, _, b, 0, h => ⟨b, chain_none h⟩
  | [], _, b, _ + 1, _ => ⟨b, trivial⟩
  | e :: r, _, _, k + 1, h => chain_drop r (some e) e.at k h.2.2.2
theorem chain_fits {cpu lost : Nat} (hcpu : cpu < 64) (hlost : lost < 4294967296) {b : Bs} {l : List Ev} (h : Chain cpu none b l) (h0 : 0 < l.length) : Bk.fits ⟨1, cpu, (lost : Int), 0, l⟩ = true := by
  have hr : b.right = true := by
    cases l with
    | nil => simp at h0
    | cons e r => exact h.1.right
  have hrow := (write_fwd hr h).1
  have hev := chain_ev _ _ _ _ h
  unfold Bk.fits
  rw [if_pos rfl]
  unfold Bk.fitsE
  rw [decide_eq_true_eq]
  refine ⟨by show (rowR l).2 = 0; rw [hrow], hcpu, by show (0 : Int) ≤ (lost : Int); omega, by show (lost : Int) ≤ _; omega, rfl, ?_⟩
  rw [headOk_cons (by show l.length ≠ 0; omega), decide_eq_true_eq]
  exact (hev _ (getD_mem Ev.zero (by show 0 < l.length; exact h0))).2
theorem chain_bkOk {cpu lost : Nat} (hcpu : cpu < 64) (hlost : lost < 4294967296) {b : Bs} {l : List Ev} (h : Chain cpu none b l) : Bk.Ok ⟨1, cpu, (lost : Int), 0, l⟩ :=
  ⟨by show 1 < 256; decide, by show cpu < 256; omega, by unfold I64; show _ ≤ (lost : Int) ∧ (lost : Int) ≤ _; omega, by unfold I64; simp, fun e he => (chain_ev _ _ _ _ h e he).1⟩
theorem grp_mono : ∀ (f x y : Nat), x ≤ y → (grp f x).length ≤ (grp f y).length
  | 0, x, y, _ => by simp [grp]
  | f + 1, x, y, h => by
    rcases Nat.lt_or_ge x 128 with h1 | h1
    · rw [grp_one f x h1]
      rcases Nat.lt_or_ge y 128 with h2 | h2
      · rw [grp_one f y h2]; simp
      · rw [grp_more f y h2]; simp
    · rw [grp_more f x h1, grp_more f y (by omega)]
      have := grp_mono f (x / 128) (y / 128) (Nat.div_le_div_right h)
      simp only [List.length_cons]
      omega
theorem vbytes_mono {x y : Nat} (h : x ≤ y) : (vbytes x).length ≤ (vbytes y).length := by unfold vbytes; rw [List.length_map, List.length_map]; exact grp_mono 10 x y h
theorem sz_mono {b : Bk} {i j : Nat} (h : i ≤ j) : b.sz i ≤ b.sz j := by
  induction h with
  | refl => exact Nat.le_refl _
  | @step j _ ih =>
    refine Nat.le_trans ih ?_
    rcases Nat.lt_or_ge j b.evs.length with h1 | h1
    · rw [sz_succ h1]; omega
    · unfold Bk.sz
      rw [List.take_of_length_le h1, List.take_of_length_le (by omega : b.evs.length ≤ j + 1)]
      omega
theorem body_take (cpu : Nat) (lost : Int) (l : List Ev) (j : Nat) (hj : 1 ≤ j) (hl : j ≤ l.length) : 12 + (Bk.body ⟨1, cpu, lost, 0, l.take j⟩).length = Bk.sz ⟨1, cpu, lost, 0, l⟩ j + (vbytes j).length := by
  have hb : Bk.base ⟨1, cpu, lost, 0, l.take j⟩ = Bk.base ⟨1, cpu, lost, 0, l⟩ := by
    unfold Bk.base
    cases l with
    | nil => simp
    | cons e r =>
      cases j with
      | zero => omega
      | succ j => rfl
  have hl2 : (l.take j).length = j := by rw [List.length_take]; omega
  unfold Bk.body Bk.sz
  rw [if_neg (by show ¬ 1 = 2; decide), hb]
  simp only [hl2]
  rw [if_neg (by omega)]
  simp only [List.length_append]
  omega
theorem first_big (P : Nat → Bool) : ∀ n, (∀ i, i < n → P i = false) ∨ ∃ k, k < n ∧ (∀ i, i < k → P i = false) ∧ P k = true
  | 0 => .inl fun i h => absurd h (Nat.not_lt_zero _)
  | n + 1 => by
    rcases first_big P n with h | ⟨k, h1, h2, h3⟩
    · cases hp : P n with
      | false => exact .inl fun i hi => (Nat.lt_succ_iff_lt_or_eq.1 hi).elim (h i) fun e => by subst e; exact hp
      | true => exact .inr ⟨n, Nat.lt_succ_self n, h, hp⟩
    · exact .inr ⟨k, by omega, h2, h3⟩
theorem err_take0 {cpu lost : Nat} (hcpu : cpu < 64) (hlost : lost < 4294967296) {b : Bs} {l : List Ev} (h : Chain cpu none b l) {j : Nat} (hj : 1 ≤ j) (hl : j ≤ l.length) (hb : Bk.big ⟨1, cpu, (lost : Int), 0, l⟩ j = false) : Bk.err ⟨1, cpu, (lost : Int), 0, l.take j⟩ = 0 := by
  refine err_is (chain_fits hcpu hlost (chain_take _ _ _ j h) (by rw [List.length_take]; omega)) ?_
  rw [body_take _ _ _ _ hj hl]
  unfold Bk.big at hb
  rw [decide_eq_false_iff_not] at hb
  omega
theorem err_take3 {cpu lost : Nat} (hcpu : cpu < 64) (hlost : lost < 4294967296) {b : Bs} {l : List Ev} (h : Chain cpu none b l) {j : Nat} (hj : 1 ≤ j) (hl : j ≤ l.length) (hb : Bk.big ⟨1, cpu, (lost : Int), 0, l⟩ j = true) : Bk.err ⟨1, cpu, (lost : Int), 0, l.take j⟩ = 3 := by
  have hf := chain_fits hcpu hlost (chain_take _ _ _ j h) (by rw [List.length_take]; omega)
  unfold Bk.big at hb
  rw [decide_eq_true_eq] at hb
  have := body_take cpu (lost : Int) l j hj hl
  unfold Bk.err
  rw [if_neg (by rw [hf]; decide), if_pos (by omega)]
theorem fills_step {cpu lost : Nat} (hcpu : cpu < 64) (hlost : lost < 4294967296) {b : Bs} {l : List Ev} (h : Chain cpu none b l) (h0 : 0 < l.length) : ∃ m, Bk.fill ⟨1, cpu, (lost : Int), 0, l⟩ = (m, 0) ∧ 1 ≤ m ∧ m ≤ l.length ∧ Bk.err ⟨1, cpu, (lost : Int), 0, l.take m⟩ = 0 ∧
    (m < l.length → Bk.err ⟨1, cpu, (lost : Int), 0, l.take (m + 1)⟩ = 3 ∧ Bk.err ⟨1, cpu, (lost : Int), 0, l⟩ = 3) := by
  have hf := chain_fits hcpu hlost h h0
  have hfill : ∀ m, Bk.fillN ⟨1, cpu, (lost : Int), 0, l⟩ = m → Bk.fill ⟨1, cpu, (lost : Int), 0, l⟩ = (m, 0) := fun m hm => by
    unfold Bk.fill; rw [if_neg (by rw [hf]; decide), hm]
  have h1 : Bk.big ⟨1, cpu, (lost : Int), 0, l⟩ 1 = false := by
    unfold Bk.big
    rw [decide_eq_false_iff_not]
    have := sz_le ⟨1, cpu, (lost : Int), 0, l⟩ 1
    have := vbytes_length 1
    omega
  rcases first_big (fun i => Bk.big ⟨1, cpu, (lost : Int), 0, l⟩ (i + 1)) l.length with hno | ⟨k, hk, hno, hb⟩
  · refine ⟨l.length, hfill _ (fillN_all hno), h0, Nat.le_refl _, ?_, fun hx => absurd hx (Nat.lt_irrefl _)⟩
    have this : Bk.big ⟨1, cpu, (lost : Int), 0, l⟩ (l.length - 1 + 1) = false := hno (l.length - 1) (by omega)
    rw [Nat.sub_add_cancel h0] at this
    exact err_take0 hcpu hlost h h0 (Nat.le_refl _) this
  · have hk1 : 1 ≤ k := by
      rcases Nat.eq_zero_or_pos k with hz | hz
      · subst hz; simp only [Nat.zero_add] at hb; rw [h1] at hb; cases hb
      · exact hz
    refine ⟨k, hfill _ (fillN_at hk hno hb), hk1, by omega, ?_, fun _ => ⟨err_take3 hcpu hlost h (by omega) hk hb, ?_⟩⟩
    · have this : Bk.big ⟨1, cpu, (lost : Int), 0, l⟩ (k - 1 + 1) = false := hno (k - 1) (by omega)
      rw [Nat.sub_add_cancel hk1] at this
      exact err_take0 hcpu hlost h hk1 (by omega) this
    · have hm : Bk.big ⟨1, cpu, (lost : Int), 0, l⟩ l.length = true := by
        unfold Bk.big at hb ⊢
        rw [decide_eq_true_eq] at hb ⊢
        have e1 := sz_mono (b := ⟨1, cpu, (lost : Int), 0, l⟩) hk
        have e2 := vbytes_mono hk
        have e1 : Bk.sz ⟨1, cpu, (lost : Int), 0, l⟩ (k + 1) ≤ Bk.sz ⟨1, cpu, (lost : Int), 0, l⟩ l.length := e1
        have e2 : (vbytes (k + 1)).length ≤ (vbytes l.length).length := e2
        omega
      have := err_take3 hcpu hlost h h0 (Nat.le_refl _) hm
      rwa [List.take_of_length_le (Nat.le_refl _)] at this
theorem fill_nil (cpu lost : Nat) (hcpu : cpu < 64) (hlost : lost < 4294967296) {l : List Ev} (h0 : l.length = 0) : Bk.fill ⟨1, cpu, (lost : Int), 0, l⟩ = (0, if lost = 0 then 107 else 0) := by
  rw [List.length_eq_zero_iff] at h0
  subst h0
  have hf : Bk.fits ⟨1, cpu, (lost : Int), 0, []⟩ = decide (0 < lost) := by
    unfold Bk.fits
    rw [if_pos rfl]
    unfold Bk.fitsE
    rw [headOk_nil rfl]
    rw [Bool.eq_iff_iff, decide_eq_true_eq, decide_eq_true_eq, decide_eq_true_eq]
    constructor
    · rintro ⟨_, _, _, _, _, h⟩
      have h : (0 : Int) < (lost : Int) := h
      omega
    · intro h
      exact ⟨rfl, hcpu, by show (0 : Int) ≤ (lost : Int); omega, by show (lost : Int) ≤ _; omega, rfl, by show (0 : Int) < (lost : Int); omega⟩
  unfold Bk.fill
  rw [hf]
  by_cases h : lost = 0
  · rw [if_pos (by simp [h]), if_pos h]
  · rw [if_neg (by simp; omega), if_neg h]; rfl
theorem bfill_is (b : Bk) (hok : b.Ok) (A : Option Addr) (c B : Nat) (w : World) (hL : LaidX B w) (hB : B ≤ w.heap.size) (hr : Rd w w.heap.size 11 A b.evs.length (b.evs.flatMap evL)) (hn : b.evs.length ≤ 1000000) {m e : Nat} (h : b.fill = (m, e)) :
    Calls Tryd.prog 22 #[.agg (b.cells A c)] w (Is w (.tuple #[.int .i64 (m : Int), .int .i64 (e : Int)])) :=
  (bfill_any b hok A c B w hL hB hr hn).mono fun _ _ hh => by rw [h] at hh; exact hh
theorem flat_drop {α : Type} (f : α → List Value) (sz : Nat) (hf : ∀ x, (f x).length = sz) : ∀ (l : List α) (k : Nat), (l.flatMap f).drop (k * sz) = (l.drop k).flatMap f
  | [], _ => by simp
  | _ :: _, 0 => by simp
  | x :: l, k + 1 => by
    rw [List.flatMap_cons, List.drop_succ_cons, List.drop_append, List.drop_of_length_le (by rw [hf, Nat.succ_mul]; omega), hf, ← flat_drop f sz hf l k, List.nil_append]
    congr 1
    rw [Nat.succ_mul]; omega
theorem rd_drop {w : World} {B g k : Nat} {l r : List Ev} (h : Rd w B 11 (some ⟨g, 0, none⟩) l.length (l.flatMap evL)) (hr : r = l.drop k) (hk : k < l.length) : Rd w B 11 (some ⟨g, k * 11, none⟩) r.length (r.flatMap evL) := by
  have h1 := h.from (k := k) (cap := l.length) (by omega) (Nat.le_refl _)
  rw [if_neg (by omega), flat_drop evL 11 evL_len] at h1
  subst hr
  rw [List.length_drop]
  have e : (some (⟨g, 0, none⟩ : Addr)).map (·.add (k * 11)) = some ⟨g, k * 11, none⟩ := by simp [Addr.add]; omega
  rw [e] at h1
  exact h1
theorem rd_take {w : World} {B m : Nat} {A : Option Addr} {l : List Ev} (h : Rd w B 11 A l.length (l.flatMap evL)) (hm : m ≤ l.length) : Rd w B 11 A (l.take m).length ((l.take m).flatMap evL) := by
  have h1 := h.upto hm
  rw [flat_take evL 11 evL_len] at h1
  rwa [List.length_take, Nat.min_eq_left hm]
end Go.Proofs.YtjpielapplglmaaDoor

/- Blocks that are wrong, in ten ways: plain. -/
namespace Go.Proofs.YtjpielapplglmaaDoor
open Go.RowKit

theorem fits_chain {b : Bk} (hok : b.Ok) (hk : b.kind = 1) (hf : b.fits = true) (hn : b.evs.length ≠ 0) : ∃ b', Chain b.cpu none b' b.evs := by
  obtain ⟨_, hE⟩ := fits_evs hf (by omega)
  obtain ⟨e, r, g⟩ := fits_row hok hE hn
  exact ⟨_, g.chain⟩
theorem not_fits {b : Bk} (h : b.fits = true → False) : b.fits = false := by
  cases hf : b.fits with
  | false => rfl
  | true => exact absurd hf h
theorem kind_bad {b : Bk} (h1 : b.kind ≠ 1) (h2 : b.kind ≠ 2) : b.fits = false := by unfold Bk.fits; rw [if_neg h1, if_neg h2]
theorem num_bad {b : Bk} (hk : b.kind = 1) (h : ¬ (b.cpu < 64 ∧ 0 ≤ b.lost ∧ b.lost ≤ 281474976710656 ∧ b.next = 0)) : b.fits = false := not_fits fun hf => by
  obtain ⟨_, hE⟩ := fits_evs hf (by omega)
  unfold Bk.fitsE at hE
  rw [decide_eq_true_eq] at hE
  exact h ⟨hE.2.1, hE.2.2.1, hE.2.2.2.1, hE.2.2.2.2.1⟩
theorem end_bad {b : Bk} (hk : b.kind = 2) (h : ¬ (1 ≤ b.next ∧ b.next ≤ 281474976710657 ∧ b.cpu = 0 ∧ b.lost = 0 ∧ b.evs.length = 0)) : b.fits = false := not_fits fun hf => by
  have hN := fits_end hf hk
  unfold Bk.fitsN at hN
  rw [decide_eq_true_eq] at hN
  exact h hN
theorem nil_bad {b : Bk} (hk : b.kind = 1) (h0 : b.evs.length = 0) (hl : b.lost ≤ 0) : b.fits = false := not_fits fun hf => by
  obtain ⟨_, hE⟩ := fits_evs hf (by omega)
  unfold Bk.fitsE at hE
  rw [decide_eq_true_eq] at hE
  have := hE.2.2.2.2.2
  rw [headOk_nil h0, decide_eq_true_eq] at this
  omega
theorem cpu_bad {b : Bk} (hok : b.Ok) (hk : b.kind = 1) {e : Ev} (he : e ∈ b.evs) (hc : e.cpu ≠ b.cpu) : b.fits = false := not_fits fun hf => by
  obtain ⟨b', h⟩ := fits_chain hok hk hf (by intro h0; rw [List.length_eq_zero_iff] at h0; rw [h0] at he; cases he)
  exact hc (chain_ev _ _ _ _ h e he).2
theorem chain_check {cpu : Nat} : ∀ (es : List Ev) (p : Option Ev) (b : Bs), Chain cpu p b es → ∀ e ∈ es, e.check = 0
  | [], _, _, _, e, he => by cases he
  | x :: r, p, b, h, e, he => by
    rcases List.mem_cons.1 he with rfl | he
    · exact h.1.check
    · exact chain_check r _ _ h.2.2.2 e he
theorem check_bad {b : Bk} (hok : b.Ok) (hk : b.kind = 1) {e : Ev} (he : e ∈ b.evs) (hc : e.check ≠ 0) : b.fits = false := not_fits fun hf => by
  obtain ⟨b', h⟩ := fits_chain hok hk hf (by intro h0; rw [List.length_eq_zero_iff] at h0; rw [h0] at he; cases he)
  exact hc (chain_check _ _ _ h e he)
theorem two_bad {b : Bk} (hok : b.Ok) (hk : b.kind = 1) {es : List Ev} {e f : Ev} (he : b.evs = es ++ [e, f]) (hc : ¬ e.seq < f.seq) : b.fits = false := not_fits fun hf => by
  obtain ⟨b', h⟩ := fits_chain hok hk hf (by rw [he]; simp)
  obtain ⟨b2, h2⟩ := chain_drop _ _ _ es.length h
  rw [he, List.drop_left] at h2
  exact hc (h2.2.2.2.2.2.1 e rfl)
theorem bad_err {b : Bk} (h : b.fits = false) : b.err = 107 := by unfold Bk.err; rw [if_pos h]
theorem bad_out {b : Bk} (h : b.fits = false) : b.out = [] := by unfold Bk.out; rw [if_neg (by rw [bad_err h]; decide)]
theorem bad_fill {b : Bk} (h : b.fits = false) : b.fill = (0, 107) := by unfold Bk.fill; rw [if_pos h]
/-- The event that is laid behind. -/
def pickE (cpu : Nat) : Ev := { Ev.zero with seq := 140737488355328, time := 140737488355328, cpu := cpu, kind := 6 }
theorem pick0_ok : (pickE 0).Ok := ⟨⟨by decide, by decide⟩, ⟨by decide, by decide⟩, by decide, by decide, ⟨by decide, by decide⟩, ⟨by decide, by decide⟩, ⟨by decide, by decide⟩, ⟨by decide, by decide⟩, ⟨by decide, by decide⟩, by decide, ⟨by decide, by decide⟩⟩
theorem got0_ok : ({ pickE 0 with got := -1 } : Ev).Ok := ⟨⟨by decide, by decide⟩, ⟨by decide, by decide⟩, by decide, by decide, ⟨by decide, by decide⟩, ⟨by decide, by decide⟩, ⟨by decide, by decide⟩, ⟨by decide, by decide⟩, ⟨by decide, by decide⟩, by decide, ⟨by decide, by decide⟩⟩
theorem pickE_ok {cpu : Nat} (h : cpu < 256) : (pickE cpu).Ok := by
  obtain ⟨a1, a2, _, a4, a5, a6, a7, a8, a9, a10, a11⟩ := pick0_ok
  exact ⟨a1, a2, h, a4, a5, a6, a7, a8, a9, a10, a11⟩
theorem got_ok {cpu : Nat} (h : cpu < 256) : ({ pickE cpu with got := -1 } : Ev).Ok := by
  obtain ⟨a1, a2, _, a4, a5, a6, a7, a8, a9, a10, a11⟩ := got0_ok
  exact ⟨a1, a2, h, a4, a5, a6, a7, a8, a9, a10, a11⟩
theorem snoc_ok {k c : Nat} {lo nx : Int} {es : List Ev} {e : Ev} (hk : k < 256) (hc : c < 256) (hl : I64 lo) (hn : I64 nx) (h : ∀ x ∈ es, x.Ok) (he : e.Ok) : Bk.Ok ⟨k, c, lo, nx, es ++ [e]⟩ := ⟨hk, hc, hl, hn, fun x hx => by
  rcases List.mem_append.1 hx with h1 | h1
  · exact h x h1
  · simp at h1; subst h1; exact he⟩
/-- What Made gives for a row: spelled. -/
theorem made_row {x : Sb} (h : x.Ok) (he : x.e = false) : ∃ (lo : Nat) (es : List Ev), x.made = ⟨1, x.cpu % 64, (lo : Int), 0, es⟩ ∧ lo ≤ 4294967296 ∧ es.length ≤ 60 ∧ ∀ e ∈ es, e.Ok := by
  have hg := made_good h
  have hl := h.lost
  have hok := hg.1.evs
  have hlen := hg.2.2
  unfold Sb.made at hok hlen ⊢
  rw [if_neg (by rw [he]; decide)] at hok hlen ⊢
  exact ⟨if x.es.length = 0 ∧ x.lost = 0 then 1 else x.lost, x.es, by congr 1; split <;> rfl, by split <;> omega, hlen, hok⟩
theorem got_check (cpu : Nat) (h : cpu < 64) : ({ pickE cpu with got := -1 } : Ev).check ≠ 0 := by
  have : ∀ c, c < 64 → ({ pickE c with got := -1 } : Ev).check ≠ 0 := by decide
  exact this cpu h
end Go.Proofs.YtjpielapplglmaaDoor

/- quantumlaw10.Made: the walk. -/
set_option linter.all false
namespace Go.Proofs.YtjpielapplglmaaDoor
open Go.RowKit
set_option maxRecDepth 100000 in
set_option maxHeartbeats 4000000 in
theorem bmade_any (x : Sb) (hx : x.Ok) (A : Option Addr) (c : Nat) (w : World) (hr : Rd w w.heap.size 11 A x.l.length (x.l.flatMap smL)) (hc : x.l.length ≤ c) (hn : x.l.length ≤ 9223372036854775807) :
    Calls Tryd.prog 15 #[.agg (x.cells A c)] w (MadeIs w x.made) := by
  refine calls_enter (vs := [.agg (x.cells A c)]) Tryd.func15 rfl rfl (by kernel_rfl) (σ0 := [(0, .agg (x.cells A c))]) rfl ?_
  intro a HF
  have HM := Mem.start w
  refine wp_seq ?_
  refine from_start ?_
  refine from_op HF (i := 0) rfl rfl ?_
  refine e_box HF HM (cs := (x.cells A c)) rfl rfl rfl rfl (by decide) ?_
  clear HF HM; intro a w1 g1 HF HM
  refine from_op HF (i := 1) rfl rfl ?_
  refine e_alloc HF HM (cs := #[.int .u8 0, .int .u8 0, .int .i64 0, .int .i64 0, .slice none 0 0]) rfl (by kernel_rfl) rfl (by decide) ?_
  clear HF HM; intro a w2 g2 HF HM
  refine from_done rfl ?_
  replace HF := HF.sub (σ' := [(2, .pointer (some ⟨g2, 0, none⟩)), (1, .pointer (some ⟨g1, 0, none⟩))]) (by kernel_rfl)
  have hlost := hx.lost
  have hcpu := hx.cpu
  obtain ⟨es, hes⟩ : ∃ es, es = x.es := ⟨_, rfl⟩
  refine wp_seq ?_
  refine wp_seq ?_
  refine from_start ?_
  refine from_pures HF 1 0 (j := 1) [(4, .pointer (some ⟨g1, 0, none⟩))] (by kernel_rfl) rfl ?_; clear HF; intro a HF
  refine from_yl (S := fun wS => Mem w wS _) HF HM (i := 1) rfl rfl (d := 5) rfl (by decide) (v := .bool x.e) (Yl.load1 rfl rfl (by kernel_rfl) (fun _ h => h.cell (i := 1) rfl rfl)) ?_; clear HF; intro a HF
  refine from_done rfl ?_
  replace HF := HF.sub (σ' := [(5, .bool x.e), (2, .pointer (some ⟨g2, 0, none⟩)), (1, .pointer (some ⟨g1, 0, none⟩))]) (by kernel_rfl)
  rcases Bool.eq_false_or_eq_true (x.e) with hb5 | hb5
  · have HF := HF.as (t := 5) (u := .bool true) rfl (by rw [hb5])
    refine cond_true HF rfl ?_
    refine wp_seq ?_
    refine from_start ?_
    refine from_pures HF 2 0 (j := 2) [(7, .pointer (some ⟨g1, 3, none⟩)), (6, .pointer (some ⟨g1, 3, none⟩))] (by kernel_rfl) rfl ?_; clear HF; intro a HF
    refine from_yl (S := fun wS => Mem w wS _) HF HM (i := 2) rfl rfl (d := 8) rfl (by decide) (v := .int .i64 x.b.seq) (Yl.load1 rfl rfl (by kernel_rfl) (fun _ h => h.cell (i := 1) rfl rfl)) ?_; clear HF; intro a HF
    refine from_op HF (i := 3) rfl rfl ?_
    refine e_call HF (vs := [.int .i64 x.b.seq, .int .i64 281474976710657]) rfl (by kernel_rfl) (by kernel_rfl) rfl (by decide) (pick_any x.b.seq 281474976710657 hx.b.seq (by unfold I64; omega) _) ?_
    rintro _ w9 ⟨rfl, rfl⟩
    refine ⟨_, rfl, ?_⟩
    replace HM := HM
    clear HF; intro a HF
    refine from_pures HF 1 4 (j := 5) [(10, .int .i64 (IntKind.i64.wrap (1 + (pickZ x.b.seq 281474976710657))))] (by kernel_rfl) rfl ?_; clear HF; intro a HF
    replace HF := HF.as (t := 10) (u := .int .i64 (1 + pickZ x.b.seq 281474976710657)) rfl (by have h := pick_next x.b.seq; rw [IntWalk.i64_in _ (by omega)])
    refine from_yl (S := fun wS => Mem w wS _) HF HM (i := 5) rfl rfl (d := 11) rfl (by decide) (v := .agg #[.int .u8 2, .int .u8 0, .int .i64 0, .int .i64 (1 + pickZ x.b.seq 281474976710657), .slice none 0 0]) (Yl.build (vs := [(0, .int .u8 2), (3, .int .i64 (1 + pickZ x.b.seq 281474976710657))]) rfl (by kernel_rfl) (by kernel_rfl)) ?_; clear HF; intro a HF
    refine from_op HF (i := 6) rfl rfl ?_
    refine e_storeAll HF HM (i := 0) (cs := #[.int .u8 0, .int .u8 0, .int .i64 0, .int .i64 0, .slice none 0 0]) (ds := #[.int .u8 2, .int .u8 0, .int .i64 0, .int .i64 (1 + pickZ x.b.seq 281474976710657), .slice none 0 0]) rfl rfl rfl rfl si_bk rfl rfl (by simp [Value.oneCell']) rfl ?_
    clear HM; intro w2_6 HM
    refine from_done rfl ?_
    replace HF := HF.sub (σ' := [(5, .bool true), (2, .pointer (some ⟨g2, 0, none⟩)), (1, .pointer (some ⟨g1, 0, none⟩))]) (by kernel_rfl)
    refine wp_ret ?_
    exact ret1 rfl HF (.cellS (i := 0) HF HM rfl rfl si_bk rfl) (madeIs_of (b := x.made) (d := ⟨2, 0, 0, 1 + pickZ x.b.seq 281474976710657, []⟩) (A := none) (c := 0) (by unfold Sb.made; rw [if_pos hb5]) (World.ownsRow_nil _ _ _ _) (Nat.le_refl _) HM.below)
  · have HF := HF.as (t := 5) (u := .bool false) rfl (by rw [hb5])
    refine cond_false HF rfl ?_
    refine wp_skip ?_
    refine cut_seq (fun aS wS => ∃ (A29 : Option Addr) (c29 : Nat) (g3 : Nat), Fr aS 42 [] [(3, .pointer (some ⟨g3, 0, none⟩)), (5, .bool false), (2, .pointer (some ⟨g2, 0, none⟩)), (1, .pointer (some ⟨g1, 0, none⟩))] ∧ Mem w wS [.blk g3 #[.int .u8 1, .int .u8 ((x.cpu % 64 : Nat) : Int), .int .i64 (x.lost : Int), .int .i64 0, .slice A29 es.length c29] 37, .row (.slice A29 es.length c29) es.length (es.flatMap evL) 55 11, .blk g2 #[.int .u8 0, .int .u8 0, .int .i64 0, .int .i64 0, .slice none 0 0] 37, .blk g1 (x.cells A c) 30] ∧ (es.length ≤ c29)) ?_ ?_
    ·
      refine any_start (by kernel_rfl) (fun wS => Mem w wS [.blk g2 #[.int .u8 0, .int .u8 0, .int .i64 0, .int .i64 0, .slice none 0 0] 37, .blk g1 (x.cells A c) 30]) [20] ?_
      replace HM := HM.drew
      have HS := HM.picks (fs' := [.blk g2 #[.int .u8 0, .int .u8 0, .int .i64 0, .int .i64 0, .slice none 0 0] 37, .blk g1 (x.cells A c) 30]) [0, 1] (by decide) rfl
      refine any_pures HF (fun _ => HS) (fun _ _ d _ _ h => by cases d <;> exact h) [0, 3, 6, 8, 10, 12] #[true, false, false, true, false, false, true, false, true, false, true, false, true, false, false, false, false, false, false, false, false] [(24, .pointer (some ⟨g1, 5, none⟩)), (22, .pointer (some ⟨g1, 5, none⟩)), (20, .pointer (some ⟨g1, 3, none⟩)), (18, .pointer (some ⟨g1, 1, none⟩)), (15, .pointer (some ⟨g1, 2, none⟩)), (12, .pointer (some ⟨g1, 1, none⟩))] (by kernel_rfl) ?_; clear HF; intro a HF
      refine any_yl HF HS (i := 1) rfl rfl (d := 13) rfl (by decide) (by kernel_rfl) (fun _ _ _ h => h) (v := .int .u8 (x.cpu : Int)) (Yl.load1 rfl rfl (by kernel_rfl) (fun _ h => h.cell (i := 1) rfl rfl)) ?_; clear HF; intro a HF
      refine any_pure HF (fun _ => HS) (i := 2) rfl rfl (d := 14) rfl (by decide) (by kernel_rfl) (fun _ _ _ h => h) (v := .int .u8 (Int.tmod (x.cpu : Int) 64)) (fun _ => Yl.pure (by kernel_rfl)) ?_; clear HF; intro a HF
      replace HF := HF.as (t := 14) (u := .int .u8 ((x.cpu % 64 : Nat) : Int)) rfl (tmod_nat .u8 _ 64)
      refine any_yl HF HS (i := 4) rfl rfl (d := 16) rfl (by decide) (by kernel_rfl) (fun _ _ _ h => h) (v := .int .u32 (x.lost : Int)) (Yl.load1 rfl rfl (by kernel_rfl) (fun _ h => h.cell (i := 1) rfl rfl)) ?_; clear HF; intro a HF
      refine any_pure HF (fun _ => HS) (i := 5) rfl rfl (d := 17) rfl (by decide) (by kernel_rfl) (fun _ _ _ h => h) (v := .int .i64 (IntKind.i64.wrap (x.lost : Int))) (fun _ => Yl.pure (by kernel_rfl)) ?_; clear HF; intro a HF
      replace HF := HF.as (t := 17) (u := .int .i64 (x.lost : Int)) rfl (i64_nat rfl (by omega))
      refine any_yl HF HS (i := 7) rfl rfl (d := 19) rfl (by decide) (by kernel_rfl) (fun _ _ _ h => h) (v := .int .u8 (x.cpu : Int)) (Yl.load1 rfl rfl (by kernel_rfl) (fun _ h => h.cell (i := 1) rfl rfl)) ?_; clear HF; intro a HF
      refine any_yl HF HS (i := 9) rfl rfl (d := 21) rfl (by decide) (by kernel_rfl) (fun _ _ _ h => h) (v := .agg #[.int .i64 x.b.seq, .int .i64 x.b.time]) (Yl.loadS rfl rfl ⟨(by kernel_rfl), (by kernel_rfl)⟩ rfl (fun _ h => h.sub (i := 1) rfl 3 rfl)) ?_; clear HF; intro a HF
      refine any_yl HF HS (i := 11) rfl rfl (d := 23) rfl (by decide) (by kernel_rfl) (fun _ _ _ h => h) (v := .slice A x.l.length c) (Yl.load1 rfl rfl (by kernel_rfl) (fun _ h => h.cell (i := 1) rfl rfl)) ?_; clear HF; intro a HF
      refine any_yl HF HS (i := 13) rfl rfl (d := 25) rfl (by decide) (by kernel_rfl) (fun _ _ _ h => h) (v := .slice A x.l.length c) (Yl.load1 rfl rfl (by kernel_rfl) (fun _ h => h.cell (i := 1) rfl rfl)) ?_; clear HF; intro a HF
      refine any_yl HF HS (i := 14) rfl rfl (d := 26) rfl (by decide) (by kernel_rfl) (fun _ _ _ h => h) (v := .int .i64 ((x.l.length : Nat) : Int)) (Yl.len rfl rfl (by kernel_rfl)) ?_; clear HF; intro a HF
      refine any_yl HF HS (i := 15) rfl rfl (d := 27) rfl (by decide) (by kernel_rfl) (fun _ _ _ h => h) (v := .int .i64 (if (60 : Int) < (((x.l.length : Nat) : Int) : Int) then 60 else ((x.l.length : Nat) : Int))) (Yl.min rfl rfl rfl) ?_; clear HF; intro a HF
      replace HF := HF.as (t := 27) (u := .int .i64 ((x.l.take 60).length : Int)) rfl (min60 _ _ rfl)
      refine any_yl HF HS (i := 16) rfl rfl (d := 28) rfl (by decide) (by kernel_rfl) (fun _ _ _ h => h) (v := .slice A ((x.l.take 60).length) c) (Yl.sliceUpto ei_sm (j := (x.l.take 60).length) rfl rfl rfl (by rw [List.length_take]; omega)) ?_; clear HF; intro a HF
      refine any_all [17, 19] (by kernel_rfl) rfl ?_
      refine all_cons ?_ ?_
      · refine any_op HF (i := 17) rfl rfl ?_
        refine e_call HF (vs := [.int .u8 (x.cpu : Int), .agg #[.int .i64 x.b.seq, .int .i64 x.b.time], .slice A ((x.l.take 60).length) c]) rfl (by kernel_rfl) (by kernel_rfl) rfl (by decide) (made7_any x.cpu hx.cpu x.b hx.b _ _ _ (x.l.take 60) (take_smOk hx) _ (by have h := (HM.old hr).upto (k := (x.l.take 60).length) (by rw [List.length_take]; omega); rw [flat_take smL 11 smL_len] at h; rwa [take60] at h) (by rw [List.length_take]; omega) (by rw [List.length_take]; omega)) ?_
        rintro _ w29 ⟨⟨v, rfl, ho⟩, hbw⟩
        rw [show madeL x.cpu x.b (x.l.take 60) = x.es from rfl, ← hes] at ho
        obtain ⟨A29, c29, rfl, hc29⟩ := own_slice ho
        refine ⟨_, rfl, ?_⟩
        replace HM := HM.callRow hbw ho
        clear HF; intro a HF
        refine keepS (HM.picks [1, 2] (by decide) rfl) (fun HS => ?_)
        refine any_yl HF HS (i := 18) rfl rfl (d := 30) rfl (by decide) (by kernel_rfl) (fun _ _ _ h => h) (v := .agg #[.int .u8 1, .int .u8 ((x.cpu % 64 : Nat) : Int), .int .i64 (x.lost : Int), .int .i64 0, .slice A29 es.length c29]) (Yl.build (vs := [(0, .int .u8 1), (1, .int .u8 ((x.cpu % 64 : Nat) : Int)), (2, .int .i64 (x.lost : Int)), (4, .slice A29 es.length c29)]) rfl (by kernel_rfl) (by kernel_rfl)) ?_; clear HF; intro a HF
        refine any_all [19] (by kernel_rfl) rfl ?_
        refine all_cons ?_ all_nil
        refine any_op HF (i := 19) rfl rfl ?_
        refine e_alloc HF HM (cs := #[.int .u8 0, .int .u8 0, .int .i64 0, .int .i64 0, .slice none 0 0]) rfl (by kernel_rfl) rfl (by decide) ?_
        clear HF HM; intro a w3 g3 HF HM
        refine keepS (HM.picks [2, 3] (by decide) rfl) (fun HS => ?_)
        refine any_all [20] (by kernel_rfl) rfl ?_
        refine all_cons ?_ all_nil
        refine any_op HF (i := 20) rfl rfl ?_
        refine e_storeAll HF HM (i := 0) (cs := #[.int .u8 0, .int .u8 0, .int .i64 0, .int .i64 0, .slice none 0 0]) (ds := #[.int .u8 1, .int .u8 ((x.cpu % 64 : Nat) : Int), .int .i64 (x.lost : Int), .int .i64 0, .slice A29 es.length c29]) rfl rfl rfl rfl si_bk rfl rfl (by simp [Value.oneCell']) rfl ?_
        clear HM; intro w3_20 HM
        refine noS (by kernel_rfl) ?_
        refine any_done (by kernel_rfl) ?_
        replace HF := HF.sub (σ' := [(3, .pointer (some ⟨g3, 0, none⟩)), (5, .bool false), (2, .pointer (some ⟨g2, 0, none⟩)), (1, .pointer (some ⟨g1, 0, none⟩))]) (by kernel_rfl)
        exact ⟨A29, c29, g3, HF.sub (by kernel_rfl), HM.picks [0, 1, 2, 3] (by decide) rfl, hc29⟩
      refine all_cons ?_ all_nil
      refine any_op HF (i := 19) rfl rfl ?_
      refine e_alloc HF HM (cs := #[.int .u8 0, .int .u8 0, .int .i64 0, .int .i64 0, .slice none 0 0]) rfl (by kernel_rfl) rfl (by decide) ?_
      clear HF HM; intro a w3 g3 HF HM
      refine keepS (HM.picks [1, 2] (by decide) rfl) (fun HS => ?_)
      refine any_all [17] (by kernel_rfl) rfl ?_
      refine all_cons ?_ all_nil
      refine any_op HF (i := 17) rfl rfl ?_
      refine e_call HF (vs := [.int .u8 (x.cpu : Int), .agg #[.int .i64 x.b.seq, .int .i64 x.b.time], .slice A ((x.l.take 60).length) c]) rfl (by kernel_rfl) (by kernel_rfl) rfl (by decide) (made7_any x.cpu hx.cpu x.b hx.b _ _ _ (x.l.take 60) (take_smOk hx) _ (by have h := (HM.old hr).upto (k := (x.l.take 60).length) (by rw [List.length_take]; omega); rw [flat_take smL 11 smL_len] at h; rwa [take60] at h) (by rw [List.length_take]; omega) (by rw [List.length_take]; omega)) ?_
      rintro _ w29 ⟨⟨v, rfl, ho⟩, hbw⟩
      rw [show madeL x.cpu x.b (x.l.take 60) = x.es from rfl, ← hes] at ho
      obtain ⟨A29, c29, rfl, hc29⟩ := own_slice ho
      refine ⟨_, rfl, ?_⟩
      replace HM := HM.callRow hbw ho
      clear HF; intro a HF
      refine keepS (HM.picks [2, 3] (by decide) rfl) (fun HS => ?_)
      refine any_yl HF HS (i := 18) rfl rfl (d := 30) rfl (by decide) (by kernel_rfl) (fun _ _ _ h => h) (v := .agg #[.int .u8 1, .int .u8 ((x.cpu % 64 : Nat) : Int), .int .i64 (x.lost : Int), .int .i64 0, .slice A29 es.length c29]) (Yl.build (vs := [(0, .int .u8 1), (1, .int .u8 ((x.cpu % 64 : Nat) : Int)), (2, .int .i64 (x.lost : Int)), (4, .slice A29 es.length c29)]) rfl (by kernel_rfl) (by kernel_rfl)) ?_; clear HF; intro a HF
      refine any_all [20] (by kernel_rfl) rfl ?_
      refine all_cons ?_ all_nil
      refine any_op HF (i := 20) rfl rfl ?_
      refine e_storeAll HF HM (i := 1) (cs := #[.int .u8 0, .int .u8 0, .int .i64 0, .int .i64 0, .slice none 0 0]) (ds := #[.int .u8 1, .int .u8 ((x.cpu % 64 : Nat) : Int), .int .i64 (x.lost : Int), .int .i64 0, .slice A29 es.length c29]) rfl rfl rfl rfl si_bk rfl rfl (by simp [Value.oneCell']) rfl ?_
      clear HM; intro w3_20 HM
      refine noS (by kernel_rfl) ?_
      refine any_done (by kernel_rfl) ?_
      replace HF := HF.sub (σ' := [(3, .pointer (some ⟨g3, 0, none⟩)), (5, .bool false), (2, .pointer (some ⟨g2, 0, none⟩)), (1, .pointer (some ⟨g1, 0, none⟩))]) (by kernel_rfl)
      exact ⟨A29, c29, g3, HF.sub (by kernel_rfl), HM.picks [1, 0, 2, 3] (by decide) rfl, hc29⟩
    clear HF HM; rintro a w3 ⟨A29, c29, g3, HF, HM, hc29⟩
    refine wp_seq ?_
    refine wp_seq ?_
    refine from_start ?_
    refine from_pures HF 1 0 (j := 1) [(31, .pointer (some ⟨g3, 4, none⟩))] (by kernel_rfl) rfl ?_; clear HF; intro a HF
    refine from_yl (S := fun wS => Mem w wS _) HF HM (i := 1) rfl rfl (d := 32) rfl (by decide) (v := .slice A29 es.length c29) (Yl.load1 rfl rfl (by kernel_rfl) (fun _ h => h.cell (i := 0) rfl rfl)) ?_; clear HF; intro a HF
    refine from_yl (S := fun wS => Mem w wS _) HF HM (i := 2) rfl rfl (d := 33) rfl (by decide) (v := .int .i64 ((es.length : Nat) : Int)) (Yl.len rfl rfl (by kernel_rfl)) ?_; clear HF; intro a HF
    refine from_pures HF 2 3 (j := 5) [(35, .bool ((((es.length : Nat) : Int) : Int) == (0 : Int))), (34, .bool ((((es.length : Nat) : Int) : Int) == (0 : Int)))] (by kernel_rfl) rfl ?_; clear HF; intro a HF
    rcases Bool.eq_false_or_eq_true ((((es.length : Nat) : Int) : Int) == (0 : Int)) with hb35 | hb35
    · have HF := HF.as (t := 35) (u := .bool true) rfl (by rw [hb35])
      have hd35 := eq_of_beq hb35
      refine from_pures HF 1 5 (j := 6) [(36, .pointer (some ⟨g3, 2, none⟩))] (by kernel_rfl) rfl ?_; clear HF; intro a HF
      refine from_yl (S := fun wS => Mem w wS _) HF HM (i := 6) rfl rfl (d := 37) rfl (by decide) (v := .int .i64 (x.lost : Int)) (Yl.load1 rfl rfl (by kernel_rfl) (fun _ h => h.cell (i := 0) rfl rfl)) ?_; clear HF; intro a HF
      refine from_pures HF 2 7 (j := 9) [(39, .bool (((x.lost : Int) : Int) == (0 : Int))), (38, .bool (((x.lost : Int) : Int) == (0 : Int)))] (by kernel_rfl) rfl ?_; clear HF; intro a HF
      refine from_done rfl ?_
      replace HF := HF.sub (σ' := [(39, .bool (((x.lost : Int) : Int) == (0 : Int))), (3, .pointer (some ⟨g3, 0, none⟩)), (5, .bool false), (2, .pointer (some ⟨g2, 0, none⟩)), (1, .pointer (some ⟨g1, 0, none⟩))]) (by kernel_rfl)
      rcases Bool.eq_false_or_eq_true (((x.lost : Int) : Int) == (0 : Int)) with hb39 | hb39
      · have HF := HF.as (t := 39) (u := .bool true) rfl (by rw [hb39])
        have hd39 := eq_of_beq hb39
        refine cond_true HF rfl ?_
        refine from_start ?_
        refine from_pures HF 1 0 (j := 1) [(40, .pointer (some ⟨g3, 2, none⟩))] (by kernel_rfl) rfl ?_; clear HF; intro a HF
        refine from_op HF (i := 1) rfl rfl ?_
        refine e_store HF HM (i := 0) (cs := #[.int .u8 1, .int .u8 ((x.cpu % 64 : Nat) : Int), .int .i64 (x.lost : Int), .int .i64 0, .slice A29 es.length c29]) rfl rfl rfl rfl (by kernel_rfl) rfl rfl (by simp) ?_
        clear HM; intro w5_1 HM
        refine from_done rfl ?_
        replace HF := HF.sub (σ' := [(39, .bool true), (3, .pointer (some ⟨g3, 0, none⟩)), (5, .bool false), (2, .pointer (some ⟨g2, 0, none⟩)), (1, .pointer (some ⟨g1, 0, none⟩))]) (by kernel_rfl)
        refine wp_seq ?_
        refine from_start ?_
        refine from_yl (S := fun wS => Mem w wS _) HF HM (i := 0) rfl rfl (d := 41) rfl (by decide) (v := .agg #[.int .u8 1, .int .u8 ((x.cpu % 64 : Nat) : Int), .int .i64 1, .int .i64 0, .slice A29 es.length c29]) (Yl.loadS rfl rfl si_bk rfl (fun _ h => range_of_block (h.blk (i := 0) rfl))) ?_; clear HF; intro a HF
        refine from_op HF (i := 1) rfl rfl ?_
        refine e_storeAll HF HM (i := 2) (cs := #[.int .u8 0, .int .u8 0, .int .i64 0, .int .i64 0, .slice none 0 0]) (ds := #[.int .u8 1, .int .u8 ((x.cpu % 64 : Nat) : Int), .int .i64 1, .int .i64 0, .slice A29 es.length c29]) rfl rfl rfl rfl si_bk rfl rfl (by simp [Value.oneCell']) rfl ?_
        clear HM; intro w6_1 HM
        refine from_done rfl ?_
        replace HF := HF.sub (σ' := [(39, .bool true), (3, .pointer (some ⟨g3, 0, none⟩)), (5, .bool false), (2, .pointer (some ⟨g2, 0, none⟩)), (1, .pointer (some ⟨g1, 0, none⟩))]) (by kernel_rfl)
        refine wp_ret ?_
        exact ret1 rfl HF (.cellS (i := 2) HF HM rfl rfl si_bk rfl) (madeIs_of (b := x.made) (d := ⟨1, x.cpu % 64, 1, 0, es⟩) (by unfold Sb.made; rw [if_neg (by rw [hb5]; decide), ← hes, if_pos ⟨by omega, by omega⟩]) (HM.own (i := 1) rfl) hc29 HM.below)
      · have HF := HF.as (t := 39) (u := .bool false) rfl (by rw [hb39])
        have hd39 := ne_of_beq_false hb39
        refine cond_false HF rfl ?_
        refine wp_skip ?_
        refine wp_seq ?_
        refine from_start ?_
        refine from_yl (S := fun wS => Mem w wS _) HF HM (i := 0) rfl rfl (d := 41) rfl (by decide) (v := .agg #[.int .u8 1, .int .u8 ((x.cpu % 64 : Nat) : Int), .int .i64 (x.lost : Int), .int .i64 0, .slice A29 es.length c29]) (Yl.loadS rfl rfl si_bk rfl (fun _ h => range_of_block (h.blk (i := 0) rfl))) ?_; clear HF; intro a HF
        refine from_op HF (i := 1) rfl rfl ?_
        refine e_storeAll HF HM (i := 2) (cs := #[.int .u8 0, .int .u8 0, .int .i64 0, .int .i64 0, .slice none 0 0]) (ds := #[.int .u8 1, .int .u8 ((x.cpu % 64 : Nat) : Int), .int .i64 (x.lost : Int), .int .i64 0, .slice A29 es.length c29]) rfl rfl rfl rfl si_bk rfl rfl (by simp [Value.oneCell']) rfl ?_
        clear HM; intro w6_1 HM
        refine from_done rfl ?_
        replace HF := HF.sub (σ' := [(39, .bool false), (3, .pointer (some ⟨g3, 0, none⟩)), (5, .bool false), (2, .pointer (some ⟨g2, 0, none⟩)), (1, .pointer (some ⟨g1, 0, none⟩))]) (by kernel_rfl)
        refine wp_ret ?_
        exact ret1 rfl HF (.cellS (i := 2) HF HM rfl rfl si_bk rfl) (madeIs_of (b := x.made) (d := ⟨1, x.cpu % 64, (x.lost : Int), 0, es⟩) (by unfold Sb.made; rw [if_neg (by rw [hb5]; decide), ← hes, if_neg (by omega)]) (HM.own (i := 1) rfl) hc29 HM.below)
    · have HF := HF.as (t := 35) (u := .bool false) rfl (by rw [hb35])
      have hd35 := ne_of_beq_false hb35
      refine from_pures HF 4 5 (j := 9) [(39, .bool false), (38, undef), (37, undef), (36, undef)] (by kernel_rfl) rfl ?_; clear HF; intro a HF
      refine from_done rfl ?_
      replace HF := HF.sub (σ' := [(39, .bool false), (3, .pointer (some ⟨g3, 0, none⟩)), (5, .bool false), (2, .pointer (some ⟨g2, 0, none⟩)), (1, .pointer (some ⟨g1, 0, none⟩))]) (by kernel_rfl)
      refine cond_false HF rfl ?_
      refine wp_skip ?_
      refine wp_seq ?_
      refine from_start ?_
      refine from_yl (S := fun wS => Mem w wS _) HF HM (i := 0) rfl rfl (d := 41) rfl (by decide) (v := .agg #[.int .u8 1, .int .u8 ((x.cpu % 64 : Nat) : Int), .int .i64 (x.lost : Int), .int .i64 0, .slice A29 es.length c29]) (Yl.loadS rfl rfl si_bk rfl (fun _ h => range_of_block (h.blk (i := 0) rfl))) ?_; clear HF; intro a HF
      refine from_op HF (i := 1) rfl rfl ?_
      refine e_storeAll HF HM (i := 2) (cs := #[.int .u8 0, .int .u8 0, .int .i64 0, .int .i64 0, .slice none 0 0]) (ds := #[.int .u8 1, .int .u8 ((x.cpu % 64 : Nat) : Int), .int .i64 (x.lost : Int), .int .i64 0, .slice A29 es.length c29]) rfl rfl rfl rfl si_bk rfl rfl (by simp [Value.oneCell']) rfl ?_
      clear HM; intro w6_1 HM
      refine from_done rfl ?_
      replace HF := HF.sub (σ' := [(39, .bool false), (3, .pointer (some ⟨g3, 0, none⟩)), (5, .bool false), (2, .pointer (some ⟨g2, 0, none⟩)), (1, .pointer (some ⟨g1, 0, none⟩))]) (by kernel_rfl)
      refine wp_ret ?_
      exact ret1 rfl HF (.cellS (i := 2) HF HM rfl rfl si_bk rfl) (madeIs_of (b := x.made) (d := ⟨1, x.cpu % 64, (x.lost : Int), 0, es⟩) (by unfold Sb.made; rw [if_neg (by rw [hb5]; decide), ← hes, if_neg (by omega)]) (HM.own (i := 1) rfl) hc29 HM.below)
end Go.Proofs.YtjpielapplglmaaDoor

/- Blocks in a row, each with where its events lie; what a wrong block is answered with, as contracts. -/
namespace Go.Proofs.YtjpielapplglmaaDoor
open Go.RowKit

theorem bmade_is (x : Sb) (hx : x.Ok) (A : Option Addr) (c : Nat) (w : World) (hr : Rd w w.heap.size 11 A x.l.length (x.l.flatMap smL)) (hc : x.l.length ≤ c) (hn : x.l.length ≤ 9223372036854775807) {b : Bk} (h : x.made = b) :
    Calls Tryd.prog 15 #[.agg (x.cells A c)] w fun r w' => (∃ A c, r = .returned (.agg (b.cells A c)) ∧ w'.ownsRow w.heap.size 55 11 (.slice A b.evs.length c) b.evs.length (b.evs.flatMap evL) ∧ b.evs.length ≤ c) ∧ Below w.heap.size w w' :=
  (bmade_any x hx A c w hr hc hn).mono fun _ _ hh => by rw [h] at hh; exact hh
structure Bkc where
  b : Bk
  A : Option Addr
  c : Nat
def Bkc.zero : Bkc := ⟨Bk.zero, none, 0⟩
def bkcL (x : Bkc) : List Value := (x.b.cells x.A x.c).toList
theorem bkcL_len (x : Bkc) : (bkcL x).length = 5 := rfl
/-- Each of a row's blocks is wrong, and reads. -/
structure BadRow (w : World) (B : Nat) (l : List Bkc) : Prop where
  ok : ∀ x ∈ l, x.b.Ok
  bad : ∀ x ∈ l, x.b.fits = false
  few : ∀ x ∈ l, x.b.evs.length ≤ 1000000
  rd : ∀ x ∈ l, Rd w B 11 x.A x.b.evs.length (x.b.evs.flatMap evL)
theorem rd_zero {w : World} {B : Nat} {A : Option Addr} {es : List Ev} (h : es.length = 0) : Rd w B 11 A es.length (es.flatMap evL) := by
  rw [List.length_eq_zero_iff] at h
  subst h
  exact Rd.nil
end Go.Proofs.YtjpielapplglmaaDoor

