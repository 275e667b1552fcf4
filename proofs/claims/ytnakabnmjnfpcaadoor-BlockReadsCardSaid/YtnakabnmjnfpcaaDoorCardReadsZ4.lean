/- Texts laid together: R10aW, R10bW, R10cW, R10dW, LR10W. -/
import Derived.Test.YtnakabnmjnfpcaaDoorCardReadsZ3
set_option linter.all false
namespace Go.Proofs.YtnakabnmjnfpcaaDoor
open Go.RowKit
set_option maxRecDepth 100000 in
set_option maxHeartbeats 4000000 in
theorem fits10_any (b : Bk) (hok : b.Ok) (A : Option Addr) (c : Nat) (w : World) (hr : Rd w w.heap.size 11 A b.evs.length (b.evs.flatMap evL)) (hn : b.evs.length ≤ 1000000) :
    Calls Tryd.prog 40 #[.agg (b.cells A c)] w (Is w (.bool b.fits)) := by
 refine calls_enter (vs := [.agg (b.cells A c)]) Tryd.func40 rfl rfl (by kernel_rfl) (σ0 := [(0, .agg (b.cells A c))]) rfl ?_
 intro a HF
 have HM := Mem.start w
 refine wp_seq (from_start ?_)
 refine from_op HF (i := 0) rfl rfl ?_
 refine e_box HF HM (cs := (b.cells A c)) rfl rfl rfl rfl (by decide) ?_
 clear HF HM; intro a w1 g1 HF HM
 refine fp HF 1 1 [(2, .bool false)] ?_; clear HF; intro a HF
 refine from_done rfl ?_
 refine wp_seq (wp_seq (from_start ?_))
 refine fp HF 1 0 [(6, vP g1 0)] ?_; clear HF; intro a HF
 refine fy HF HM 1 rfl rfl rfl (v := vB b.kind) (Yl.load1 rfl rfl (by kernel_rfl) (fun _ h => h.cell (i := 0) rfl (rfl))) ?_; clear HF; intro a HF
 refine fp HF 1 2 [(8, .bool ((b.kind : Int) == (2 : Int)))] ?_; clear HF; intro a HF
 refine from_done rfl ?_
 rcases Bool.eq_false_or_eq_true ((b.kind : Int) == (2 : Int)) with hb8 | hb8
 ·have HF := HF.on 8 hb8
  have hd8 := eq_of_beq hb8
  refine cond_true HF rfl (wp_seq (from_start ?_))
  refine fp HF 1 0 [(9, vP g1 3)] ?_; clear HF; intro a HF
  refine fy HF HM 1 rfl rfl rfl (v := vI b.next) (Yl.load1 rfl rfl (by kernel_rfl) (fun _ h => h.cell (i := 0) rfl (rfl))) ?_; clear HF; intro a HF
  refine fp HF 2 2 [(12, .bool (decide ((b.next : Int) ≥ (1 : Int)))), (11, .bool (decide ((b.next : Int) ≥ (1 : Int))))] ?_; clear HF; intro a HF
  rcases Bool.eq_false_or_eq_true (decide ((b.next : Int) ≥ (1 : Int))) with hb12 | hb12
  ·have HF := HF.on 12 hb12
   have hd12 := of_decide_eq_true hb12
   refine fp HF 1 4 [(13, vP g1 3)] ?_; clear HF; intro a HF
   refine fy HF HM 5 rfl rfl rfl (v := vI b.next) (Yl.load1 rfl rfl (by kernel_rfl) (fun _ h => h.cell (i := 0) rfl (rfl))) ?_; clear HF; intro a HF
   refine fp HF 3 6 [(17, .bool (decide ((b.next : Int) ≤ (281474976710657 : Int)))), (16, .bool (decide ((b.next : Int) ≤ (281474976710657 : Int)))), (15, .bool (decide ((b.next : Int) ≤ (281474976710657 : Int))))] ?_; clear HF; intro a HF
   rcases Bool.eq_false_or_eq_true (decide ((b.next : Int) ≤ (281474976710657 : Int))) with hb17 | hb17
   ·have HF := HF.on 17 hb17
    have hd17 := of_decide_eq_true hb17
    refine fp HF 1 9 [(18, vP g1 1)] ?_; clear HF; intro a HF
    refine fy HF HM 10 rfl rfl rfl (v := vB b.cpu) (Yl.load1 rfl rfl (by kernel_rfl) (fun _ h => h.cell (i := 0) rfl (rfl))) ?_; clear HF; intro a HF
    refine fp HF 3 11 [(22, .bool ((b.cpu : Int) == (0 : Int))), (21, .bool ((b.cpu : Int) == (0 : Int))), (20, .bool ((b.cpu : Int) == (0 : Int)))] ?_; clear HF; intro a HF
    rcases Bool.eq_false_or_eq_true ((b.cpu : Int) == (0 : Int)) with hb22 | hb22
    ·have HF := HF.on 22 hb22
     have hd22 := eq_of_beq hb22
     refine fp HF 1 14 [(23, vP g1 2)] ?_; clear HF; intro a HF
     refine fy HF HM 15 rfl rfl rfl (v := vI b.lost) (Yl.load1 rfl rfl (by kernel_rfl) (fun _ h => h.cell (i := 0) rfl (rfl))) ?_; clear HF; intro a HF
     refine fp HF 3 16 [(27, .bool ((b.lost : Int) == (0 : Int))), (26, .bool ((b.lost : Int) == (0 : Int))), (25, .bool ((b.lost : Int) == (0 : Int)))] ?_; clear HF; intro a HF
     rcases Bool.eq_false_or_eq_true ((b.lost : Int) == (0 : Int)) with hb27 | hb27
     ·have HF := HF.on 27 hb27
      have hd27 := eq_of_beq hb27
      refine fp HF 1 19 [(28, vP g1 4)] ?_; clear HF; intro a HF
      refine fy HF HM 20 rfl rfl rfl (v := .slice A b.evs.length c) (Yl.load1 rfl rfl (by kernel_rfl) (fun _ h => h.cell (i := 0) rfl (rfl))) ?_; clear HF; intro a HF
      refine fy HF HM 21 rfl rfl rfl (Yl.len rfl rfl (by kernel_rfl)) ?_; clear HF; intro a HF
      refine fp HF 3 22 [(2, .bool ((b.evs.length : Int) == (0 : Int))), (32, .bool ((b.evs.length : Int) == (0 : Int))), (31, .bool ((b.evs.length : Int) == (0 : Int)))] ?_; clear HF; intro a HF
      refine from_done rfl ?_
      replace HF := HF.to [(2, .bool ((b.evs.length : Int) == (0 : Int))), (8, .bool true), (1, vP g1 0)]
      refine wp_ret ?_
      exact ret1 rfl HF (.tmp HF rfl) (⟨congrArg (fun x => Ending.returned (.bool x)) (by rw [fits_two (by omega), Bool.eq_iff_iff, beq_iff_eq, decide_eq_true_eq]; omega), HM.below⟩)
     ·have HF := HF.on 27 hb27
      have hd27 := ne_of_beq_false hb27
      refine fp HF 6 19 [(2, .bool false), (32, .bool false), (31, undef), (30, undef), (29, undef), (28, undef)] ?_; clear HF; intro a HF
      refine from_done rfl ?_
      replace HF := HF.to [(2, .bool false), (8, .bool true), (1, vP g1 0)]
      refine wp_ret ?_
      exact ret1 rfl HF (.tmp HF rfl) (⟨by rw [fits_two (by omega), decide_eq_false (by omega)], HM.below⟩)
    ·have HF := HF.on 22 hb22
     have hd22 := ne_of_beq_false hb22
     refine fp HF 11 14 [(2, .bool false), (32, .bool false), (31, undef), (30, undef), (29, undef), (28, undef), (27, .bool false), (26, .bool false), (25, undef), (24, undef), (23, undef)] ?_; clear HF; intro a HF
     refine from_done rfl ?_
     replace HF := HF.to [(2, .bool false), (8, .bool true), (1, vP g1 0)]
     refine wp_ret ?_
     exact ret1 rfl HF (.tmp HF rfl) (⟨by rw [fits_two (by omega), decide_eq_false (by omega)], HM.below⟩)
   ·have HF := HF.on 17 hb17
    have hd17 := of_decide_eq_false hb17
    refine fp HF 16 9 [(2, .bool false), (32, .bool false), (31, undef), (30, undef), (29, undef), (28, undef), (27, .bool false), (26, .bool false), (25, undef), (24, undef), (23, undef), (22, .bool false), (21, .bool false), (20, undef), (19, undef), (18, undef)] ?_; clear HF; intro a HF
    refine from_done rfl ?_
    replace HF := HF.to [(2, .bool false), (8, .bool true), (1, vP g1 0)]
    refine wp_ret ?_
    exact ret1 rfl HF (.tmp HF rfl) (⟨by rw [fits_two (by omega), decide_eq_false (by omega)], HM.below⟩)
  ·have HF := HF.on 12 hb12
   have hd12 := of_decide_eq_false hb12
   refine fp HF 21 4 [(2, .bool false), (32, .bool false), (31, undef), (30, undef), (29, undef), (28, undef), (27, .bool false), (26, .bool false), (25, undef), (24, undef), (23, undef), (22, .bool false), (21, .bool false), (20, undef), (19, undef), (18, undef), (17, .bool false), (16, .bool false), (15, undef), (14, undef), (13, undef)] ?_; clear HF; intro a HF
   refine from_done rfl ?_
   replace HF := HF.to [(2, .bool false), (8, .bool true), (1, vP g1 0)]
   refine wp_ret ?_
   exact ret1 rfl HF (.tmp HF rfl) (⟨by rw [fits_two (by omega), decide_eq_false (by omega)], HM.below⟩)
 ·have HF := HF.on 8 hb8
  have hd8 := ne_of_beq_false hb8
  refine cond_false HF rfl (wp_skip (wp_seq (wp_seq (from_start ?_))))
  refine fp HF 1 0 [(33, vP g1 0)] ?_; clear HF; intro a HF
  refine fy HF HM 1 rfl rfl rfl (v := vB b.kind) (Yl.load1 rfl rfl (by kernel_rfl) (fun _ h => h.cell (i := 0) rfl (rfl))) ?_; clear HF; intro a HF
  refine fp HF 2 2 [(36, .bool ((b.kind : Int) != (1 : Int))), (35, .bool ((b.kind : Int) != (1 : Int)))] ?_; clear HF; intro a HF
  rcases Bool.eq_false_or_eq_true ((b.kind : Int) != (1 : Int)) with hb36 | hb36
  ·have HF := HF.on 36 hb36
   have hd36 := bne_iff_ne.1 hb36
   refine fp HF 30 4 [(66, .bool true), (65, undef), (64, undef), (63, undef), (62, undef), (61, undef), (60, undef), (59, undef), (58, undef), (57, undef), (56, .bool true), (55, .bool true), (54, undef), (53, undef), (52, undef), (51, .bool true), (50, .bool true), (49, undef), (48, undef), (47, undef), (46, .bool true), (45, .bool true), (44, undef), (43, undef), (42, undef), (41, .bool true), (40, .bool true), (39, undef), (38, undef), (37, undef)] ?_; clear HF; intro a HF
   refine from_done rfl ?_
   replace HF := HF.to [(66, .bool true), (8, .bool false), (2, .bool false), (1, vP g1 0)]
   refine cond_true HF rfl (wp_seq (from_start ?_))
   refine fp HF 1 0 [(2, .bool false)] ?_; clear HF; intro a HF
   refine from_done rfl ?_
   refine wp_ret ?_
   exact ret1 rfl HF (.tmp HF rfl) (⟨by rw [fits_bad (by omega) (by omega)], HM.below⟩)
  ·have HF := HF.on 36 hb36
   have hd36 := bne_eq_false_iff_eq.1 hb36
   refine fp HF 1 4 [(37, vP g1 1)] ?_; clear HF; intro a HF
   refine fy HF HM 5 rfl rfl rfl (v := vB b.cpu) (Yl.load1 rfl rfl (by kernel_rfl) (fun _ h => h.cell (i := 0) rfl (rfl))) ?_; clear HF; intro a HF
   refine fp HF 3 6 [(41, .bool (decide ((b.cpu : Int) > (63 : Int)))), (40, .bool (decide ((b.cpu : Int) > (63 : Int)))), (39, .bool (decide ((b.cpu : Int) > (63 : Int))))] ?_; clear HF; intro a HF
   rcases Bool.eq_false_or_eq_true (decide ((b.cpu : Int) > (63 : Int))) with hb41 | hb41
   ·have HF := HF.on 41 hb41
    have hd41 := of_decide_eq_true hb41
    refine fp HF 25 9 [(66, .bool true), (65, undef), (64, undef), (63, undef), (62, undef), (61, undef), (60, undef), (59, undef), (58, undef), (57, undef), (56, .bool true), (55, .bool true), (54, undef), (53, undef), (52, undef), (51, .bool true), (50, .bool true), (49, undef), (48, undef), (47, undef), (46, .bool true), (45, .bool true), (44, undef), (43, undef), (42, undef)] ?_; clear HF; intro a HF
    refine from_done rfl ?_
    replace HF := HF.to [(66, .bool true), (8, .bool false), (2, .bool false), (1, vP g1 0)]
    refine cond_true HF rfl (wp_seq (from_start ?_))
    refine fp HF 1 0 [(2, .bool false)] ?_; clear HF; intro a HF
    refine from_done rfl ?_
    refine wp_ret ?_
    exact ret1 rfl HF (.tmp HF rfl) (⟨by rw [fits_bad (by omega) (by omega)], HM.below⟩)
   ·have HF := HF.on 41 hb41
    have hd41 := of_decide_eq_false hb41
    refine fp HF 1 9 [(42, vP g1 2)] ?_; clear HF; intro a HF
    refine fy HF HM 10 rfl rfl rfl (v := vI b.lost) (Yl.load1 rfl rfl (by kernel_rfl) (fun _ h => h.cell (i := 0) rfl (rfl))) ?_; clear HF; intro a HF
    refine fp HF 3 11 [(46, .bool (decide ((b.lost : Int) < (0 : Int)))), (45, .bool (decide ((b.lost : Int) < (0 : Int)))), (44, .bool (decide ((b.lost : Int) < (0 : Int))))] ?_; clear HF; intro a HF
    rcases Bool.eq_false_or_eq_true (decide ((b.lost : Int) < (0 : Int))) with hb46 | hb46
    ·have HF := HF.on 46 hb46
     have hd46 := of_decide_eq_true hb46
     refine fp HF 20 14 [(66, .bool true), (65, undef), (64, undef), (63, undef), (62, undef), (61, undef), (60, undef), (59, undef), (58, undef), (57, undef), (56, .bool true), (55, .bool true), (54, undef), (53, undef), (52, undef), (51, .bool true), (50, .bool true), (49, undef), (48, undef), (47, undef)] ?_; clear HF; intro a HF
     refine from_done rfl ?_
     replace HF := HF.to [(66, .bool true), (8, .bool false), (2, .bool false), (1, vP g1 0)]
     refine cond_true HF rfl (wp_seq (from_start ?_))
     refine fp HF 1 0 [(2, .bool false)] ?_; clear HF; intro a HF
     refine from_done rfl ?_
     refine wp_ret ?_
     exact ret1 rfl HF (.tmp HF rfl) (⟨by rw [fits_bad (by omega) (by omega)], HM.below⟩)
    ·have HF := HF.on 46 hb46
     have hd46 := of_decide_eq_false hb46
     refine fp HF 1 14 [(47, vP g1 2)] ?_; clear HF; intro a HF
     refine fy HF HM 15 rfl rfl rfl (v := vI b.lost) (Yl.load1 rfl rfl (by kernel_rfl) (fun _ h => h.cell (i := 0) rfl (rfl))) ?_; clear HF; intro a HF
     refine fp HF 3 16 [(51, .bool (decide ((b.lost : Int) > (281474976710656 : Int)))), (50, .bool (decide ((b.lost : Int) > (281474976710656 : Int)))), (49, .bool (decide ((b.lost : Int) > (281474976710656 : Int))))] ?_; clear HF; intro a HF
     rcases Bool.eq_false_or_eq_true (decide ((b.lost : Int) > (281474976710656 : Int))) with hb51 | hb51
     ·have HF := HF.on 51 hb51
      have hd51 := of_decide_eq_true hb51
      refine fp HF 15 19 [(66, .bool true), (65, undef), (64, undef), (63, undef), (62, undef), (61, undef), (60, undef), (59, undef), (58, undef), (57, undef), (56, .bool true), (55, .bool true), (54, undef), (53, undef), (52, undef)] ?_; clear HF; intro a HF
      refine from_done rfl ?_
      replace HF := HF.to [(66, .bool true), (8, .bool false), (2, .bool false), (1, vP g1 0)]
      refine cond_true HF rfl (wp_seq (from_start ?_))
      refine fp HF 1 0 [(2, .bool false)] ?_; clear HF; intro a HF
      refine from_done rfl ?_
      refine wp_ret ?_
      exact ret1 rfl HF (.tmp HF rfl) (⟨by rw [fits_bad (by omega) (by omega)], HM.below⟩)
     ·have HF := HF.on 51 hb51
      have hd51 := of_decide_eq_false hb51
      refine fp HF 1 19 [(52, vP g1 3)] ?_; clear HF; intro a HF
      refine fy HF HM 20 rfl rfl rfl (v := vI b.next) (Yl.load1 rfl rfl (by kernel_rfl) (fun _ h => h.cell (i := 0) rfl (rfl))) ?_; clear HF; intro a HF
      refine fp HF 3 21 [(56, .bool ((b.next : Int) != (0 : Int))), (55, .bool ((b.next : Int) != (0 : Int))), (54, .bool ((b.next : Int) != (0 : Int)))] ?_; clear HF; intro a HF
      rcases Bool.eq_false_or_eq_true ((b.next : Int) != (0 : Int)) with hb56 | hb56
      ·have HF := HF.on 56 hb56
       have hd56 := bne_iff_ne.1 hb56
       refine fp HF 10 24 [(66, .bool true), (65, undef), (64, undef), (63, undef), (62, undef), (61, undef), (60, undef), (59, undef), (58, undef), (57, undef)] ?_; clear HF; intro a HF
       refine from_done rfl ?_
       replace HF := HF.to [(66, .bool true), (8, .bool false), (2, .bool false), (1, vP g1 0)]
       refine cond_true HF rfl (wp_seq (from_start ?_))
       refine fp HF 1 0 [(2, .bool false)] ?_; clear HF; intro a HF
       refine from_done rfl ?_
       refine wp_ret ?_
       exact ret1 rfl HF (.tmp HF rfl) (⟨by rw [fits_bad (by omega) (by omega)], HM.below⟩)
      ·have HF := HF.on 56 hb56
       have hd56 := bne_eq_false_iff_eq.1 hb56
       refine fp HF 1 24 [(57, vP g1 2)] ?_; clear HF; intro a HF
       refine fy HF HM 25 rfl rfl rfl (v := vI b.lost) (Yl.load1 rfl rfl (by kernel_rfl) (fun _ h => h.cell (i := 0) rfl (rfl))) ?_; clear HF; intro a HF
       refine fp HF 2 26 [(60, .bool ((b.lost : Int) == (0 : Int))), (59, .bool ((b.lost : Int) == (0 : Int)))] ?_; clear HF; intro a HF
       rcases Bool.eq_false_or_eq_true ((b.lost : Int) == (0 : Int)) with hb60 | hb60
       ·have HF := HF.on 60 hb60
        have hd60 := eq_of_beq hb60
        refine fp HF 1 28 [(61, vP g1 4)] ?_; clear HF; intro a HF
        refine fy HF HM 29 rfl rfl rfl (v := .slice A b.evs.length c) (Yl.load1 rfl rfl (by kernel_rfl) (fun _ h => h.cell (i := 0) rfl (rfl))) ?_; clear HF; intro a HF
        refine fy HF HM 30 rfl rfl rfl (Yl.len rfl rfl (by kernel_rfl)) ?_; clear HF; intro a HF
        refine fp HF 3 31 [(66, .bool ((b.evs.length : Int) == (0 : Int))), (65, .bool ((b.evs.length : Int) == (0 : Int))), (64, .bool ((b.evs.length : Int) == (0 : Int)))] ?_; clear HF; intro a HF
        refine from_done rfl ?_
        replace HF := HF.to [(66, .bool ((b.evs.length : Int) == (0 : Int))), (8, .bool false), (2, .bool false), (1, vP g1 0)]
        rcases Bool.eq_false_or_eq_true ((b.evs.length : Int) == (0 : Int)) with hb66 | hb66
        ·have HF := HF.on 66 hb66
         have hd66 := eq_of_beq hb66
         refine cond_true HF rfl (wp_seq (from_start ?_))
         refine fp HF 1 0 [(2, .bool false)] ?_; clear HF; intro a HF
         refine from_done rfl ?_
         refine wp_ret ?_
         exact ret1 rfl HF (.tmp HF rfl) (⟨by rw [fits_bad (by omega) (by omega)], HM.below⟩)
        ·have HF := HF.on 66 hb66
         have hd66 := ne_of_beq_false hb66
         refine cond_false HF rfl (wp_skip (wp_seq (wp_seq (from_start ?_))))
         refine fp HF 1 0 [(3, vI 0)] ?_; clear HF; intro a HF
         refine from_done rfl ?_
         refine wp_block ?_
         refine loop_nat (fun mS aS wS => ∃ (k : Nat), (k ≤ b.evs.length) ∧ (∀ i, i < k → (b.evs.getD i Ev.zero).cpu = b.cpu) ∧ mS = b.evs.length - k ∧ Fr aS 91 [] [(3, vI k), (66, .bool false), (8, .bool false), (2, .bool false), (1, vP g1 0)] ∧ Mem w wS [.blk g1 (b.cells A c) 39]) (m := b.evs.length - 0) ⟨0, Nat.zero_le _, fun i hi => absurd hi (Nat.not_lt_zero _), rfl, HF.sub (by kernel_rfl), HM.picks [0] (by decide) rfl⟩ ?_
         clear HF HM; rintro mS a w_ ⟨k, hk, hall, rfl, HF, HM⟩
         refine wp_seq (wp_seq (from_start ?_))
         refine fp HF 2 0 [(68, vP g1 4), (67, vI k)] ?_; clear HF; intro a HF
         refine fy HF HM 2 rfl rfl rfl (v := .slice A b.evs.length c) (Yl.load1 rfl rfl (by kernel_rfl) (fun _ h => h.cell (i := 0) rfl (rfl))) ?_; clear HF; intro a HF
         refine fy HF HM 3 rfl rfl rfl (Yl.len rfl rfl (by kernel_rfl)) ?_; clear HF; intro a HF
         refine fp HF 1 4 [(71, .bool (decide ((k : Int) < (b.evs.length : Int))))] ?_; clear HF; intro a HF
         refine from_done rfl ?_
         rcases Bool.eq_false_or_eq_true (decide ((k : Int) < (b.evs.length : Int))) with hb71 | hb71
         ·have HF := HF.on 71 hb71
          have hd71 := of_decide_eq_true hb71
          refine cond_true HF rfl (wp_skip (wp_seq (wp_block (wp_seq ?_))))
          refine any_start (by kernel_rfl) (fun wS => Mem w wS [.blk g1 (b.cells A c) 39]) [] ?_
          replace HM := HM.drew
          have HS := HM.picks (fs' := [.blk g1 (b.cells A c) 39]) [0] (by decide) rfl
          refine ap HF (fun _ => HS) [0, 2, 6] #[true, false, true, false, false, false, true, false, false] [(80, vP g1 1), (76, vI k), (74, vP g1 4)] ?_; clear HF; intro a HF
          refine ay HF HS 1 rfl rfl rfl (v := .slice A b.evs.length c) (Yl.load1 rfl rfl (by kernel_rfl) (fun _ h => h.cell (i := 0) rfl (rfl))) ?_; clear HF; intro a HF
          obtain ⟨gA, oA, rfl, _⟩ := hr.some_at (Nat.lt_of_le_of_lt (Nat.zero_le _) (show k < b.evs.length from by omega)) (by decide)
          refine ay HF HS 3 rfl rfl rfl (v := vP gA (oA + k * 11)) ((Yl.indexAddr (ad := ⟨gA, oA, none⟩) (y := k) (sz := 11) rfl rfl rfl (by omega) (by kernel_rfl)).as (by rw [Addr.add_mid])) ?_; clear HF; intro a HF
          refine ap HF (fun _ => HS) [4] #[true, true, true, true, true, false, true, false, false] [(78, vP gA (oA + k * 11 + 2))] ?_; clear HF; intro a HF
          refine ay HF HS 5 rfl rfl rfl (v := vB ((b.evs.getD k Ev.zero).cpu)) (Yl.load1 rfl rfl (by kernel_rfl) (fun _ h => (h.old hr).partAt evL_len (k := k) (j := 2) (x := (b.evs.getD k Ev.zero)) ((getD_at Ev.zero (k := k) (by first | omega | (simp; omega)))) rfl)) ?_; clear HF; intro a HF
          refine ay HF HS 7 rfl rfl rfl (v := vB b.cpu) (Yl.load1 rfl rfl (by kernel_rfl) (fun _ h => h.cell (i := 0) rfl (rfl))) ?_; clear HF; intro a HF
          refine ap HF (fun _ => HS) [8] #[true, true, true, true, true, true, true, true, true] [(82, .bool (((b.evs.getD k Ev.zero).cpu : Int) != (b.cpu : Int)))] ?_; clear HF; intro a HF
          refine any_done (by kernel_rfl) ?_
          rcases Bool.eq_false_or_eq_true (((b.evs.getD k Ev.zero).cpu : Int) != (b.cpu : Int)) with hb82 | hb82
          ·have HF := HF.on 82 hb82
           have hd82 := bne_iff_ne.1 hb82
           refine cond_true HF rfl (wp_seq (from_start ?_))
           refine fp HF 1 0 [(2, .bool false)] ?_; clear HF; intro a HF
           refine from_done rfl ?_
           refine wp_ret ?_
           exact ret1 rfl HF (.tmp HF rfl) (⟨by rw [fits_cpu hok (by omega) (k := k) (by omega) (by omega)], HM.below⟩)
          ·have HF := HF.on 82 hb82
           have hd82 := bne_eq_false_iff_eq.1 hb82
           refine cond_false HF rfl (wp_skip (from_start ?_))
           refine fp HF 2 0 [(73, vI (IntKind.i64.wrap ((k : Int) + 1))), (72, vI k)] ?_; clear HF; intro a HF
           replace HF := HF.as (t := 73) (u := vI (k + 1 : Nat)) rfl (i64_nat (by omega) (by omega))
           refine fp HF 1 2 [(3, vI (k + 1 : Nat))] ?_; clear HF; intro a HF
           refine from_done rfl ?_
           replace HF := HF.to [(3, vI (k + 1 : Nat)), (82, .bool false), (71, .bool true), (66, .bool false), (8, .bool false), (2, .bool false), (1, vP g1 0)]
           exact ⟨_, (by omega), k + 1, by omega, fun i hi => (Nat.lt_succ_iff_lt_or_eq.1 hi).elim (hall i) (fun h => by subst h; omega), rfl, HF.sub (by kernel_rfl), HM.picks [0] (by decide) rfl⟩
         ·have HF := HF.on 71 hb71
          have hd71 := of_decide_eq_false hb71
          refine cond_false HF rfl (wp_exit (wp_seq (from_start ?_)))
          refine fp HF 1 0 [(84, vP g1 4)] ?_; clear HF; intro a HF
          refine fy HF HM 1 rfl rfl rfl (v := .slice A b.evs.length c) (Yl.load1 rfl rfl (by kernel_rfl) (fun _ h => h.cell (i := 0) rfl (rfl))) ?_; clear HF; intro a HF
          refine from_op HF (i := 2) rfl rfl ?_
          refine e_call HF (vs := [.slice A b.evs.length c]) rfl (by kernel_rfl) (by kernel_rfl) rfl (by decide) (row07_any _ _ _ b.evs hok.evs _ (HM.old hr) (by omega) rfl) ?_
          rintro _ w86 ⟨rfl, hbw⟩
          refine ⟨_, rfl, ?_⟩
          replace HM := HM.call hbw
          clear HF; intro a HF
          refine fp HF 5 3 [(5, vI ((rowR b.evs).2)), (4, vI ((rowR b.evs).1)), (88, vI ((rowR b.evs).2)), (87, vI ((rowR b.evs).1)), (83, .tuple #[vI ((rowR b.evs).1), vI ((rowR b.evs).2)])] ?_; clear HF; intro a HF
          refine from_done rfl ?_
          refine wp_seq (from_start ?_)
          refine fp HF 3 0 [(2, .bool (((rowR b.evs).2 : Int) == (0 : Int))), (90, .bool (((rowR b.evs).2 : Int) == (0 : Int))), (89, vI ((rowR b.evs).2))] ?_; clear HF; intro a HF
          refine from_done rfl ?_
          refine wp_ret ?_
          exact ret1 rfl HF (.tmp HF rfl) (⟨congrArg (fun x => Ending.returned (.bool x)) (by rw [fits_rows (by omega) (by omega) (by omega) (by omega) (by omega) (by omega) (fun i hi => hall i (by omega)), Bool.eq_iff_iff, beq_iff_eq, decide_eq_true_eq]; omega), HM.below⟩)
       ·have HF := HF.on 60 hb60
        have hd60 := ne_of_beq_false hb60
        refine fp HF 6 28 [(66, .bool false), (65, .bool false), (64, undef), (63, undef), (62, undef), (61, undef)] ?_; clear HF; intro a HF
        refine from_done rfl ?_
        replace HF := HF.to [(66, .bool false), (8, .bool false), (2, .bool false), (1, vP g1 0)]
        refine cond_false HF rfl (wp_skip (wp_seq (wp_seq (from_start ?_))))
        refine fp HF 1 0 [(3, vI 0)] ?_; clear HF; intro a HF
        refine from_done rfl ?_
        refine wp_block ?_
        refine loop_nat (fun mS aS wS => ∃ (k : Nat), (k ≤ b.evs.length) ∧ (∀ i, i < k → (b.evs.getD i Ev.zero).cpu = b.cpu) ∧ mS = b.evs.length - k ∧ Fr aS 91 [] [(3, vI k), (66, .bool false), (8, .bool false), (2, .bool false), (1, vP g1 0)] ∧ Mem w wS [.blk g1 (b.cells A c) 39]) (m := b.evs.length - 0) ⟨0, Nat.zero_le _, fun i hi => absurd hi (Nat.not_lt_zero _), rfl, HF.sub (by kernel_rfl), HM.picks [0] (by decide) rfl⟩ ?_
        clear HF HM; rintro mS a w_ ⟨k, hk, hall, rfl, HF, HM⟩
        refine wp_seq (wp_seq (from_start ?_))
        refine fp HF 2 0 [(68, vP g1 4), (67, vI k)] ?_; clear HF; intro a HF
        refine fy HF HM 2 rfl rfl rfl (v := .slice A b.evs.length c) (Yl.load1 rfl rfl (by kernel_rfl) (fun _ h => h.cell (i := 0) rfl (rfl))) ?_; clear HF; intro a HF
        refine fy HF HM 3 rfl rfl rfl (Yl.len rfl rfl (by kernel_rfl)) ?_; clear HF; intro a HF
        refine fp HF 1 4 [(71, .bool (decide ((k : Int) < (b.evs.length : Int))))] ?_; clear HF; intro a HF
        refine from_done rfl ?_
        rcases Bool.eq_false_or_eq_true (decide ((k : Int) < (b.evs.length : Int))) with hb71 | hb71
        ·have HF := HF.on 71 hb71
         have hd71 := of_decide_eq_true hb71
         refine cond_true HF rfl (wp_skip (wp_seq (wp_block (wp_seq ?_))))
         refine any_start (by kernel_rfl) (fun wS => Mem w wS [.blk g1 (b.cells A c) 39]) [] ?_
         replace HM := HM.drew
         have HS := HM.picks (fs' := [.blk g1 (b.cells A c) 39]) [0] (by decide) rfl
         refine ap HF (fun _ => HS) [0, 2, 6] #[true, false, true, false, false, false, true, false, false] [(80, vP g1 1), (76, vI k), (74, vP g1 4)] ?_; clear HF; intro a HF
         refine ay HF HS 1 rfl rfl rfl (v := .slice A b.evs.length c) (Yl.load1 rfl rfl (by kernel_rfl) (fun _ h => h.cell (i := 0) rfl (rfl))) ?_; clear HF; intro a HF
         obtain ⟨gA, oA, rfl, _⟩ := hr.some_at (Nat.lt_of_le_of_lt (Nat.zero_le _) (show k < b.evs.length from by omega)) (by decide)
         refine ay HF HS 3 rfl rfl rfl (v := vP gA (oA + k * 11)) ((Yl.indexAddr (ad := ⟨gA, oA, none⟩) (y := k) (sz := 11) rfl rfl rfl (by omega) (by kernel_rfl)).as (by rw [Addr.add_mid])) ?_; clear HF; intro a HF
         refine ap HF (fun _ => HS) [4] #[true, true, true, true, true, false, true, false, false] [(78, vP gA (oA + k * 11 + 2))] ?_; clear HF; intro a HF
         refine ay HF HS 5 rfl rfl rfl (v := vB ((b.evs.getD k Ev.zero).cpu)) (Yl.load1 rfl rfl (by kernel_rfl) (fun _ h => (h.old hr).partAt evL_len (k := k) (j := 2) (x := (b.evs.getD k Ev.zero)) ((getD_at Ev.zero (k := k) (by first | omega | (simp; omega)))) rfl)) ?_; clear HF; intro a HF
         refine ay HF HS 7 rfl rfl rfl (v := vB b.cpu) (Yl.load1 rfl rfl (by kernel_rfl) (fun _ h => h.cell (i := 0) rfl (rfl))) ?_; clear HF; intro a HF
         refine ap HF (fun _ => HS) [8] #[true, true, true, true, true, true, true, true, true] [(82, .bool (((b.evs.getD k Ev.zero).cpu : Int) != (b.cpu : Int)))] ?_; clear HF; intro a HF
         refine any_done (by kernel_rfl) ?_
         rcases Bool.eq_false_or_eq_true (((b.evs.getD k Ev.zero).cpu : Int) != (b.cpu : Int)) with hb82 | hb82
         ·have HF := HF.on 82 hb82
          have hd82 := bne_iff_ne.1 hb82
          refine cond_true HF rfl (wp_seq (from_start ?_))
          refine fp HF 1 0 [(2, .bool false)] ?_; clear HF; intro a HF
          refine from_done rfl ?_
          refine wp_ret ?_
          exact ret1 rfl HF (.tmp HF rfl) (⟨by rw [fits_cpu hok (by omega) (k := k) (by omega) (by omega)], HM.below⟩)
         ·have HF := HF.on 82 hb82
          have hd82 := bne_eq_false_iff_eq.1 hb82
          refine cond_false HF rfl (wp_skip (from_start ?_))
          refine fp HF 2 0 [(73, vI (IntKind.i64.wrap ((k : Int) + 1))), (72, vI k)] ?_; clear HF; intro a HF
          replace HF := HF.as (t := 73) (u := vI (k + 1 : Nat)) rfl (i64_nat (by omega) (by omega))
          refine fp HF 1 2 [(3, vI (k + 1 : Nat))] ?_; clear HF; intro a HF
          refine from_done rfl ?_
          replace HF := HF.to [(3, vI (k + 1 : Nat)), (82, .bool false), (71, .bool true), (66, .bool false), (8, .bool false), (2, .bool false), (1, vP g1 0)]
          exact ⟨_, (by omega), k + 1, by omega, fun i hi => (Nat.lt_succ_iff_lt_or_eq.1 hi).elim (hall i) (fun h => by subst h; omega), rfl, HF.sub (by kernel_rfl), HM.picks [0] (by decide) rfl⟩
        ·have HF := HF.on 71 hb71
         have hd71 := of_decide_eq_false hb71
         refine cond_false HF rfl (wp_exit (wp_seq (from_start ?_)))
         refine fp HF 1 0 [(84, vP g1 4)] ?_; clear HF; intro a HF
         refine fy HF HM 1 rfl rfl rfl (v := .slice A b.evs.length c) (Yl.load1 rfl rfl (by kernel_rfl) (fun _ h => h.cell (i := 0) rfl (rfl))) ?_; clear HF; intro a HF
         refine from_op HF (i := 2) rfl rfl ?_
         refine e_call HF (vs := [.slice A b.evs.length c]) rfl (by kernel_rfl) (by kernel_rfl) rfl (by decide) (row07_any _ _ _ b.evs hok.evs _ (HM.old hr) (by omega) rfl) ?_
         rintro _ w86 ⟨rfl, hbw⟩
         refine ⟨_, rfl, ?_⟩
         replace HM := HM.call hbw
         clear HF; intro a HF
         refine fp HF 5 3 [(5, vI ((rowR b.evs).2)), (4, vI ((rowR b.evs).1)), (88, vI ((rowR b.evs).2)), (87, vI ((rowR b.evs).1)), (83, .tuple #[vI ((rowR b.evs).1), vI ((rowR b.evs).2)])] ?_; clear HF; intro a HF
         refine from_done rfl ?_
         refine wp_seq (from_start ?_)
         refine fp HF 3 0 [(2, .bool (((rowR b.evs).2 : Int) == (0 : Int))), (90, .bool (((rowR b.evs).2 : Int) == (0 : Int))), (89, vI ((rowR b.evs).2))] ?_; clear HF; intro a HF
         refine from_done rfl ?_
         refine wp_ret ?_
         exact ret1 rfl HF (.tmp HF rfl) (⟨congrArg (fun x => Ending.returned (.bool x)) (by rw [fits_rows (by omega) (by omega) (by omega) (by omega) (by omega) (by omega) (fun i hi => hall i (by omega)), Bool.eq_iff_iff, beq_iff_eq, decide_eq_true_eq]; omega), HM.below⟩)
set_option maxRecDepth 100000 in
set_option maxHeartbeats 4000000 in
theorem bytes10_any (b : Bk) (hok : b.Ok) (A : Option Addr) (c : Nat) (w : World) (hr : Rd w w.heap.size 11 A b.evs.length (b.evs.flatMap evL)) (hn : b.evs.length ≤ 1000000) (hf : b.fits = true) :
    Calls Tryd.prog 31 #[.agg (b.cells A c)] w (BytesOne w b.raw) := by
 refine calls_enter (vs := [.agg (b.cells A c)]) Tryd.func31 rfl rfl (by kernel_rfl) (σ0 := [(0, .agg (b.cells A c))]) rfl ?_
 intro a HF
 have HM := Mem.start w
 refine wp_seq (from_start ?_)
 refine from_op HF (i := 0) rfl rfl ?_
 refine e_box HF HM (cs := (b.cells A c)) rfl rfl rfl rfl (by decide) ?_
 clear HF HM; intro a w1 g1 HF HM
 refine fp HF 1 1 [(2, .slice none 0 0)] ?_; clear HF; intro a HF
 refine from_done rfl ?_
 refine wp_seq (from_start ?_)
 refine fp HF 1 0 [(3, .slice none 0 0)] ?_; clear HF; intro a HF
 refine from_done rfl ?_
 refine wp_seq (wp_seq (from_start ?_))
 refine fp HF 1 0 [(9, vP g1 0)] ?_; clear HF; intro a HF
 refine fy HF HM 1 rfl rfl rfl (v := vB b.kind) (Yl.load1 rfl rfl (by kernel_rfl) (fun _ h => h.cell (i := 0) rfl (rfl))) ?_; clear HF; intro a HF
 refine fp HF 1 2 [(11, .bool ((b.kind : Int) == (2 : Int)))] ?_; clear HF; intro a HF
 refine from_done rfl ?_
 rcases Bool.eq_false_or_eq_true ((b.kind : Int) == (2 : Int)) with hb11 | hb11
 ·have HF := HF.on 11 hb11
  have hd11 := eq_of_beq hb11
  have hbl := body_length b
  have hk2 : b.kind = 2 := by omega
  obtain ⟨n1, n2, n3, n4, n5⟩ := fits_next hf hk2
  refine cond_true HF rfl (from_start ?_)
  refine fp HF 1 0 [(12, vP g1 3)] ?_; clear HF; intro a HF
  refine fy HF HM 1 rfl rfl rfl (v := vI b.next) (Yl.load1 rfl rfl (by kernel_rfl) (fun _ h => h.cell (i := 0) rfl (rfl))) ?_; clear HF; intro a HF
  refine fp HF 1 2 [(14, vQ (IntKind.u64.wrap b.next))] ?_; clear HF; intro a HF
  replace HF := HF.as (t := 14) (u := vQ b.next.toNat) rfl (u64_nat (by omega) (by omega))
  refine from_op HF (i := 3) rfl rfl ?_
  refine e_call HF (vs := [vQ b.next.toNat]) rfl (by kernel_rfl) (by kernel_rfl) rfl (by decide) (write01_is b.next.toNat _ (by omega)) ?_
  rintro _ w15 ⟨⟨A15, c15, rfl, ho, hc15⟩, hbw⟩
  refine ⟨_, rfl, ?_⟩
  replace HM := HM.callRow hbw ho
  clear HF; intro a HF
  refine fp HF 1 4 [(3, .slice A15 (((vbytes b.next.toNat)).length) c15)] ?_; clear HF; intro a HF
  refine from_done rfl ?_
  refine wp_seq (wp_seq (from_start ?_))
  refine fp HF 1 0 [(28, vP g1 4)] ?_; clear HF; intro a HF
  refine fy HF HM 1 rfl rfl rfl (v := .slice A b.evs.length c) (Yl.load1 rfl rfl (by kernel_rfl) (fun _ h => h.cell (i := 1) rfl (rfl))) ?_; clear HF; intro a HF
  refine fy HF HM 2 rfl rfl rfl (Yl.len rfl rfl (by kernel_rfl)) ?_; clear HF; intro a HF
  refine fp HF 1 3 [(31, .bool (decide ((b.evs.length : Int) > (0 : Int))))] ?_; clear HF; intro a HF
  refine from_done rfl ?_
  have hb31 : (decide ((b.evs.length : Int) > (0 : Int))) = false := by rw [decide_eq_false (by omega)]
  have HF := HF.as (t := 31) (u := .bool false) rfl (by rw [hb31])
  have hnA15 : ((vbytes b.next.toNat)).length = b.body.length := by rw [body_two hk2]
  replace HM := HM.reRow (i := 0) (ys := b.body.map B8) rfl hnA15 (by rw [body_two hk2])
  replace HF := HF.as (t := 3) (u := .slice A15 b.body.length c15) rfl (by rw [hnA15])
  replace HF := HF.as (t := 15) (u := .slice A15 b.body.length c15) rfl (by rw [hnA15])
  refine cond_false HF rfl (wp_skip (wp_seq (from_start ?_)))
  refine fp HF 1 0 [(60, .slice A15 b.body.length c15)] ?_; clear HF; intro a HF
  refine fy HF HM 1 rfl rfl rfl (Yl.len rfl rfl (by kernel_rfl)) ?_; clear HF; intro a HF
  refine fp HF 1 2 [(62, vI (IntKind.i64.wrap ((b.body.length : Int) + 12)))] ?_; clear HF; intro a HF
  replace HF := HF.as (t := 62) (u := vI (b.body.length + 12 : Nat)) rfl (i64_nat (by omega) (by omega))
  refine fp HF 1 3 [(7, vI (b.body.length + 12 : Nat))] ?_; clear HF; intro a HF
  refine from_done rfl ?_
  replace HF := HF.to [(7, vI (b.body.length + 12 : Nat)), (15, .slice A15 b.body.length c15), (3, .slice A15 b.body.length c15), (31, .bool false), (11, .bool true), (2, .slice none 0 0), (1, vP g1 0)]
  have hbl := body_length b
  refine wp_seq (from_start ?_)
  refine fp HF 2 0 [(64, vI (Int.tmod ((b.body.length + 12 : Nat) : Int) 256)), (63, vI (b.body.length + 12 : Nat))] ?_; clear HF; intro a HF
  replace HF := HF.as (t := 64) (u := vI ((b.body.length + 12) % 256 : Nat)) rfl (tmod_nat .i64 _ 256)
  refine fp HF 1 2 [(65, vB (IntKind.u8.wrap (((b.body.length + 12) % 256 : Nat) : Int)))] ?_; clear HF; intro a HF
  replace HF := HF.as (t := 65) (u := vB ((b.body.length + 12) % 256 : Nat)) rfl ((u8_mod ((b.body.length + 12) % 256)).trans (by rw [Nat.mod_mod]))
  refine fp HF 2 3 [(67, vI (IntKind.i64.wrap (Int.tdiv ((b.body.length + 12 : Nat) : Int) 256))), (66, vI (b.body.length + 12 : Nat))] ?_; clear HF; intro a HF
  replace HF := HF.as (t := 67) (u := vI ((b.body.length + 12) / 256 : Nat)) rfl (tdiv_nat .i64 256 (by show _ ≤ 9223372036854775807; omega))
  refine fp HF 1 5 [(68, vI (Int.tmod (((b.body.length + 12) / 256 : Nat) : Int) 256))] ?_; clear HF; intro a HF
  replace HF := HF.as (t := 68) (u := vI (((b.body.length + 12) / 256) % 256 : Nat)) rfl (tmod_nat .i64 _ 256)
  refine fp HF 1 6 [(69, vB (IntKind.u8.wrap ((((b.body.length + 12) / 256) % 256 : Nat) : Int)))] ?_; clear HF; intro a HF
  replace HF := HF.as (t := 69) (u := vB (((b.body.length + 12) / 256) % 256 : Nat)) rfl ((u8_mod (((b.body.length + 12) / 256) % 256)).trans (by rw [Nat.mod_mod]))
  refine fp HF 2 7 [(71, vI (IntKind.i64.wrap (Int.tdiv ((b.body.length + 12 : Nat) : Int) 65536))), (70, vI (b.body.length + 12 : Nat))] ?_; clear HF; intro a HF
  replace HF := HF.as (t := 71) (u := vI ((b.body.length + 12) / 65536 : Nat)) rfl (tdiv_nat .i64 65536 (by show _ ≤ 9223372036854775807; omega))
  refine fp HF 1 9 [(72, vI (Int.tmod (((b.body.length + 12) / 65536 : Nat) : Int) 256))] ?_; clear HF; intro a HF
  replace HF := HF.as (t := 72) (u := vI (((b.body.length + 12) / 65536) % 256 : Nat)) rfl (tmod_nat .i64 _ 256)
  refine fp HF 1 10 [(73, vB (IntKind.u8.wrap ((((b.body.length + 12) / 65536) % 256 : Nat) : Int)))] ?_; clear HF; intro a HF
  replace HF := HF.as (t := 73) (u := vB (((b.body.length + 12) / 65536) % 256 : Nat)) rfl ((u8_mod (((b.body.length + 12) / 65536) % 256)).trans (by rw [Nat.mod_mod]))
  refine fp HF 2 11 [(75, vI (IntKind.i64.wrap (Int.tdiv ((b.body.length + 12 : Nat) : Int) 16777216))), (74, vI (b.body.length + 12 : Nat))] ?_; clear HF; intro a HF
  replace HF := HF.as (t := 75) (u := vI ((b.body.length + 12) / 16777216 : Nat)) rfl (tdiv_nat .i64 16777216 (by show _ ≤ 9223372036854775807; omega))
  refine fp HF 1 13 [(76, vB (IntKind.u8.wrap (((b.body.length + 12) / 16777216 : Nat) : Int)))] ?_; clear HF; intro a HF
  replace HF := HF.as (t := 76) (u := vB (((b.body.length + 12) / 16777216) % 256 : Nat)) rfl (u8_mod ((b.body.length + 12) / 16777216))
  refine fp HF 1 14 [(77, vP g1 0)] ?_; clear HF; intro a HF
  refine fy HF HM 15 rfl rfl rfl (v := vB b.kind) (Yl.load1 rfl rfl (by kernel_rfl) (fun _ h => h.cell (i := 1) rfl (rfl))) ?_; clear HF; intro a HF
  refine from_op HF (i := 16) rfl rfl ?_
  refine e_slice HF HM (vs := [(0, vB ((b.body.length + 12) % 256 : Nat)), (1, vB (((b.body.length + 12) / 256) % 256 : Nat)), (2, vB (((b.body.length + 12) / 65536) % 256 : Nat)), (3, vB (((b.body.length + 12) / 16777216) % 256 : Nat)), (4, vB 113), (5, vB 116), (6, vB 1), (7, vB b.kind)]) (cs := #[vB ((b.body.length + 12) % 256 : Nat), vB (((b.body.length + 12) / 256) % 256 : Nat), vB (((b.body.length + 12) / 65536) % 256 : Nat), vB (((b.body.length + 12) / 16777216) % 256 : Nat), vB 113, vB 116, vB 1, vB b.kind]) rfl ei_u8 (by decide) rfl (by kernel_rfl) rfl (by decide) ?_
  clear HF HM; intro a w79 g79 HF HM
  refine fp HF 1 17 [(8, vS g79 8 8)] ?_; clear HF; intro a HF
  refine from_done rfl ?_
  replace HF := HF.to [(8, vS g79 8 8), (15, .slice A15 b.body.length c15), (3, .slice A15 b.body.length c15), (31, .bool false), (11, .bool true), (2, .slice none 0 0), (1, vP g1 0)]
  refine wp_seq (from_start ?_)
  refine fp HF 2 0 [(81, .slice A15 b.body.length c15), (80, vS g79 8 8)] ?_; clear HF; intro a HF
  refine from_op HF (i := 2) rfl rfl ?_
  replace HM := HM.blkRow (i := 0) (n := 8) (size := 1) rfl rfl (by decide)
  refine e_append HF HM (i := 0) rfl ei_u8 rfl rfl rfl (news := (b.body.map B8)) (HM.rd (i := 1) rfl) (one_B8 _) (by omega) (by omega) rfl (by decide) ?_
  clear HF HM; intro a w82 A82 c82 HF HM hc82
  refine fp HF 1 3 [(2, .slice A82 (8 + b.body.length) c82)] ?_; clear HF; intro a HF
  refine from_done rfl ?_
  have hnA82 : 8 + b.body.length = b.raw.length := by rw [raw_length]
  replace HM := HM.reRow (i := 0) (ys := b.raw.map B8) rfl hnA82 (raw10 b)
  rw [hnA82] at hc82
  replace HF := HF.as (t := 2) (u := .slice A82 b.raw.length c82) rfl (by rw [hnA82])
  replace HF := HF.as (t := 82) (u := .slice A82 b.raw.length c82) rfl (by rw [hnA82])
  refine wp_ret ?_
  exact ret1 rfl HF (.tmp HF rfl) (⟨⟨_, _, rfl, HM.own (i := 0) rfl, hc82⟩, HM.below⟩)
 ·have HF := HF.on 11 hb11
  have hd11 := ne_of_beq_false hb11
  have hbl := body_length b
  have hk2 : b.kind ≠ 2 := by omega
  obtain ⟨m0, m1, m2, m3, m4⟩ := fits_lost hf hk2
  refine cond_false HF rfl (from_start ?_)
  refine fp HF 1 0 [(16, vP g1 1)] ?_; clear HF; intro a HF
  refine fy HF HM 1 rfl rfl rfl (v := vB b.cpu) (Yl.load1 rfl rfl (by kernel_rfl) (fun _ h => h.cell (i := 0) rfl (rfl))) ?_; clear HF; intro a HF
  refine fp HF 1 2 [(18, vQ (IntKind.u64.wrap (b.cpu : Int)))] ?_; clear HF; intro a HF
  replace HF := HF.as (t := 18) (u := vQ b.cpu) rfl (u64_nat rfl (by omega))
  refine fp HF 1 3 [(19, vP g1 2)] ?_; clear HF; intro a HF
  refine fy HF HM 4 rfl rfl rfl (v := vI b.lost) (Yl.load1 rfl rfl (by kernel_rfl) (fun _ h => h.cell (i := 0) rfl (rfl))) ?_; clear HF; intro a HF
  refine fp HF 1 5 [(21, vQ (IntKind.u64.wrap b.lost))] ?_; clear HF; intro a HF
  replace HF := HF.as (t := 21) (u := vQ b.lost.toNat) rfl (u64_nat (by omega) (by omega))
  refine fp HF 1 6 [(22, vP g1 4)] ?_; clear HF; intro a HF
  refine fy HF HM 7 rfl rfl rfl (v := .slice A b.evs.length c) (Yl.load1 rfl rfl (by kernel_rfl) (fun _ h => h.cell (i := 0) rfl (rfl))) ?_; clear HF; intro a HF
  refine fy HF HM 8 rfl rfl rfl (Yl.len rfl rfl (by kernel_rfl)) ?_; clear HF; intro a HF
  refine fp HF 1 9 [(25, vQ (IntKind.u64.wrap (b.evs.length : Int)))] ?_; clear HF; intro a HF
  replace HF := HF.as (t := 25) (u := vQ b.evs.length) rfl (u64_nat rfl (by omega))
  refine from_op HF (i := 10) rfl rfl ?_
  refine e_slice HF HM (vs := [(0, vQ b.cpu), (1, vQ b.lost.toNat), (2, vQ b.evs.length)]) (cs := #[vQ b.cpu, vQ b.lost.toNat, vQ b.evs.length]) rfl ei_u64 (by decide) rfl (by kernel_rfl) rfl (by decide) ?_
  clear HF HM; intro a w26 g26 HF HM
  refine from_op HF (i := 11) rfl rfl ?_
  refine e_call HF (vs := [vS g26 3 3]) rfl (by kernel_rfl) (by kernel_rfl) rfl (by decide) (wall01_any _ 3 _ [b.cpu, b.lost.toNat, b.evs.length] _ (HM.rdBlk (i := 0) (n := 3) (size := 1) rfl rfl) rfl (by intro x hx; simp only [List.mem_cons, List.not_mem_nil, or_false] at hx; omega) (by omega)) ?_
  rintro _ w27 ⟨⟨A27, c27, rfl, ho, hc27⟩, hbw⟩
  refine ⟨_, rfl, ?_⟩
  replace HM := HM.callRow hbw ho
  clear HF; intro a HF
  have hfl27 := flat_length [b.cpu, b.lost.toNat, b.evs.length]
  simp only [List.length_cons, List.length_nil] at hfl27
  refine fp HF 1 12 [(3, .slice A27 ((([b.cpu, b.lost.toNat, b.evs.length].flatMap vbytes)).length) c27)] ?_; clear HF; intro a HF
  refine from_done rfl ?_
  replace HF := HF.to [(3, .slice A27 ((([b.cpu, b.lost.toNat, b.evs.length].flatMap vbytes)).length) c27), (11, .bool false), (2, .slice none 0 0), (1, vP g1 0)]
  replace HM := HM.picks (fs' := [.row (.slice A27 ((([b.cpu, b.lost.toNat, b.evs.length].flatMap vbytes)).length) c27) ((([b.cpu, b.lost.toNat, b.evs.length].flatMap vbytes)).length) (([b.cpu, b.lost.toNat, b.evs.length].flatMap vbytes).map B8) 5 1, .blk g1 (b.cells A c) 39]) [0, 2] (by decide) rfl
  refine wp_seq (wp_seq (from_start ?_))
  refine fp HF 1 0 [(28, vP g1 4)] ?_; clear HF; intro a HF
  refine fy HF HM 1 rfl rfl rfl (v := .slice A b.evs.length c) (Yl.load1 rfl rfl (by kernel_rfl) (fun _ h => h.cell (i := 1) rfl (rfl))) ?_; clear HF; intro a HF
  refine fy HF HM 2 rfl rfl rfl (Yl.len rfl rfl (by kernel_rfl)) ?_; clear HF; intro a HF
  refine fp HF 1 3 [(31, .bool (decide ((b.evs.length : Int) > (0 : Int))))] ?_; clear HF; intro a HF
  refine from_done rfl ?_
  rcases Bool.eq_false_or_eq_true (decide ((b.evs.length : Int) > (0 : Int))) with hb31 | hb31
  ·have HF := HF.on 31 hb31
   have hd31 := of_decide_eq_true hb31
   obtain ⟨b1, b2, b3, b4⟩ : 0 ≤ (b.evs.getD 0 Ev.zero).seq ∧ (b.evs.getD 0 Ev.zero).seq ≤ 281474976710656 ∧ 0 ≤ (b.evs.getD 0 Ev.zero).time ∧ (b.evs.getD 0 Ev.zero).time ≤ 281474976710656 := by have hbd := base_bnd hok hf hk2 (by omega); rw [base_getD] at hbd; exact hbd
   have hw07 := fits_write hok (fits_evs hf hk2).2 (by omega)
   refine cond_true HF rfl (wp_seq (from_start ?_))
   refine fp HF 1 0 [(32, vP g1 4)] ?_; clear HF; intro a HF
   refine fy HF HM 1 rfl rfl rfl (v := .slice A b.evs.length c) (Yl.load1 rfl rfl (by kernel_rfl) (fun _ h => h.cell (i := 1) rfl (rfl))) ?_; clear HF; intro a HF
   obtain ⟨gA, oA, rfl, _⟩ := hr.some_at (Nat.lt_of_le_of_lt (Nat.zero_le _) (show 0 < b.evs.length from by omega)) (by decide)
   refine fy HF HM 2 rfl rfl rfl (v := vP gA oA) (Yl.indexAddr (ad := ⟨gA, oA, none⟩) (y := 0) (sz := 11) rfl rfl rfl (by omega) (by kernel_rfl)) ?_; clear HF; intro a HF
   refine fy HF HM 3 rfl rfl rfl (v := .agg ((b.evs.getD 0 Ev.zero).cells)) (Yl.loadS rfl rfl ⟨(by kernel_rfl), (by kernel_rfl)⟩ rfl (fun _ h => (h.old hr).structAt evL_len ((getD_at Ev.zero (k := 0) (by first | omega | (simp; omega)))))) ?_; clear HF; intro a HF
   refine from_op HF (i := 4) rfl rfl ?_
   refine e_alloc HF HM (cs := #[vI 0, vI 0, vB 0, vB 0, vI 0, vI 0, vI 0, vI 0, vI 0, vQ 0, vI 0]) rfl (by kernel_rfl) rfl (by decide) ?_
   clear HF HM; intro a w4 g4 HF HM
   refine from_op HF (i := 5) rfl rfl ?_
   refine e_storeAll HF HM (i := 0) (cs := #[vI 0, vI 0, vB 0, vB 0, vI 0, vI 0, vI 0, vI 0, vI 0, vQ 0, vI 0]) (ds := (b.evs.getD 0 Ev.zero).cells) rfl rfl rfl rfl ⟨(by kernel_rfl), (by kernel_rfl)⟩ rfl rfl (ev_one (b.evs.getD 0 Ev.zero)) rfl ?_
   clear HM; intro w6_5 HM
   refine from_done rfl ?_
   refine wp_seq (from_start ?_)
   refine fp HF 2 0 [(37, vP g4 0), (36, .slice A27 ((([b.cpu, b.lost.toNat, b.evs.length].flatMap vbytes)).length) c27)] ?_; clear HF; intro a HF
   refine fy HF HM 2 rfl rfl rfl (v := vI ((b.evs.getD 0 Ev.zero).seq)) (Yl.load1 rfl rfl (by kernel_rfl) (fun _ h => h.cell (i := 0) rfl (rfl))) ?_; clear HF; intro a HF
   refine fp HF 1 3 [(39, vQ (IntKind.u64.wrap ((b.evs.getD 0 Ev.zero).seq)))] ?_; clear HF; intro a HF
   replace HF := HF.as (t := 39) (u := vQ (((b.evs.getD 0 Ev.zero).seq).toNat : Nat)) rfl (u64_nat (by omega) (by omega))
   refine fp HF 1 4 [(40, vP g4 1)] ?_; clear HF; intro a HF
   refine fy HF HM 5 rfl rfl rfl (v := vI ((b.evs.getD 0 Ev.zero).time)) (Yl.load1 rfl rfl (by kernel_rfl) (fun _ h => h.cell (i := 0) rfl (rfl))) ?_; clear HF; intro a HF
   refine fp HF 1 6 [(42, vQ (IntKind.u64.wrap ((b.evs.getD 0 Ev.zero).time)))] ?_; clear HF; intro a HF
   replace HF := HF.as (t := 42) (u := vQ (((b.evs.getD 0 Ev.zero).time).toNat : Nat)) rfl (u64_nat (by omega) (by omega))
   refine from_op HF (i := 7) rfl rfl ?_
   refine e_slice HF HM (vs := [(0, vQ (((b.evs.getD 0 Ev.zero).seq).toNat : Nat)), (1, vQ (((b.evs.getD 0 Ev.zero).time).toNat : Nat))]) (cs := #[vQ (((b.evs.getD 0 Ev.zero).seq).toNat : Nat), vQ (((b.evs.getD 0 Ev.zero).time).toNat : Nat)]) rfl ei_u64 (by decide) rfl (by kernel_rfl) rfl (by decide) ?_
   clear HF HM; intro a w43 g43 HF HM
   refine from_op HF (i := 8) rfl rfl ?_
   refine e_call HF (vs := [vS g43 2 2]) rfl (by kernel_rfl) (by kernel_rfl) rfl (by decide) (wall01_any _ 2 _ [(b.evs.getD 0 Ev.zero).seq.toNat, (b.evs.getD 0 Ev.zero).time.toNat] _ (HM.rdBlk (i := 0) (n := 2) (size := 1) rfl rfl) rfl (by intro x hx; simp only [List.mem_cons, List.not_mem_nil, or_false] at hx; omega) (by omega)) ?_
   rintro _ w44 ⟨⟨A44, c44, rfl, ho, hc44⟩, hbw⟩
   refine ⟨_, rfl, ?_⟩
   replace HM := HM.callRow hbw ho
   clear HF; intro a HF
   have hfl44 := flat_length [(b.evs.getD 0 Ev.zero).seq.toNat, (b.evs.getD 0 Ev.zero).time.toNat]
   simp only [List.length_cons, List.length_nil] at hfl44
   refine from_op HF (i := 9) rfl rfl ?_
   refine e_append HF HM (i := 3) rfl ei_u8 rfl rfl rfl (news := (([(b.evs.getD 0 Ev.zero).seq.toNat, (b.evs.getD 0 Ev.zero).time.toNat].flatMap vbytes).map B8)) (HM.rd (i := 0) rfl) (one_B8 _) (by omega) (by omega) rfl (by decide) ?_
   clear HF HM; intro a w45 A45 c45 HF HM hc45
   refine fp HF 1 10 [(3, .slice A45 (((([b.cpu, b.lost.toNat, b.evs.length].flatMap vbytes)).length) + ((([(b.evs.getD 0 Ev.zero).seq.toNat, (b.evs.getD 0 Ev.zero).time.toNat].flatMap vbytes)).length)) c45)] ?_; clear HF; intro a HF
   refine from_done rfl ?_
   replace HF := HF.to [(3, .slice A45 (((([b.cpu, b.lost.toNat, b.evs.length].flatMap vbytes)).length) + ((([(b.evs.getD 0 Ev.zero).seq.toNat, (b.evs.getD 0 Ev.zero).time.toNat].flatMap vbytes)).length)) c45), (4, vP g4 0), (31, .bool true), (11, .bool false), (2, .slice none 0 0), (1, vP g1 0)]
   replace HM := HM.picks (fs' := [.blk g4 ((b.evs.getD 0 Ev.zero).cells) 65, .row (.slice A45 (((([b.cpu, b.lost.toNat, b.evs.length].flatMap vbytes)).length) + ((([(b.evs.getD 0 Ev.zero).seq.toNat, (b.evs.getD 0 Ev.zero).time.toNat].flatMap vbytes)).length)) c45) (((([b.cpu, b.lost.toNat, b.evs.length].flatMap vbytes)).length) + ((([(b.evs.getD 0 Ev.zero).seq.toNat, (b.evs.getD 0 Ev.zero).time.toNat].flatMap vbytes)).length)) ((([b.cpu, b.lost.toNat, b.evs.length].flatMap vbytes).map B8) ++ (([(b.evs.getD 0 Ev.zero).seq.toNat, (b.evs.getD 0 Ev.zero).time.toNat].flatMap vbytes).map B8)) 5 1, .blk g1 (b.cells (some ⟨gA, oA, none⟩) c) 39]) [2, 3, 4] (by decide) rfl
   refine wp_seq (from_start ?_)
   refine fp HF 1 0 [(47, vP g4 0)] ?_; clear HF; intro a HF
   refine fy HF HM 1 rfl rfl rfl (v := vI ((b.evs.getD 0 Ev.zero).seq)) (Yl.load1 rfl rfl (by kernel_rfl) (fun _ h => h.cell (i := 0) rfl (rfl))) ?_; clear HF; intro a HF
   refine fp HF 1 2 [(49, vP g4 1)] ?_; clear HF; intro a HF
   refine fy HF HM 3 rfl rfl rfl (v := vI ((b.evs.getD 0 Ev.zero).time)) (Yl.load1 rfl rfl (by kernel_rfl) (fun _ h => h.cell (i := 0) rfl (rfl))) ?_; clear HF; intro a HF
   refine fy HF HM 4 rfl rfl rfl (v := .agg ((⟨(b.evs.getD 0 Ev.zero).seq, (b.evs.getD 0 Ev.zero).time⟩ : Bs).cells)) ((Yl.build (vs := [(0, vI ((b.evs.getD 0 Ev.zero).seq)), (1, vI ((b.evs.getD 0 Ev.zero).time))]) rfl (by kernel_rfl) (by kernel_rfl))) ?_; clear HF; intro a HF
   refine fp HF 1 5 [(52, vP g1 4)] ?_; clear HF; intro a HF
   refine fy HF HM 6 rfl rfl rfl (v := .slice (some ⟨gA, oA, none⟩) b.evs.length c) (Yl.load1 rfl rfl (by kernel_rfl) (fun _ h => h.cell (i := 2) rfl (rfl))) ?_; clear HF; intro a HF
   refine from_op HF (i := 7) rfl rfl ?_
   refine e_call HF (vs := [.agg ((⟨(b.evs.getD 0 Ev.zero).seq, (b.evs.getD 0 Ev.zero).time⟩ : Bs).cells), .slice (some ⟨gA, oA, none⟩) b.evs.length c]) rfl (by kernel_rfl) (by kernel_rfl) rfl (by decide) ((write07_any ⟨(b.evs.getD 0 Ev.zero).seq, (b.evs.getD 0 Ev.zero).time⟩ _ _ _ b.evs hok.evs _ (HM.old hr) (by omega) (by omega) rfl).mono (fun _ _ h => h.as (er' := 0) (R' := recs b.base b.evs) (by rw [← base_getD]; exact hw07.1) (by rw [← base_getD]; exact hw07.2))) ?_
   rintro _ w54 ⟨⟨A54, c54, rfl, ho, hc54⟩, hbw⟩
   refine ⟨_, rfl, ?_⟩
   replace HM := HM.callRow hbw ho
   clear HF; intro a HF
   have hrl := recsLenB b.evs b.base
   refine fp HF 5 8 [(6, vI 0), (5, .slice A54 (((recs b.base b.evs)).length) c54), (56, vI 0), (55, .slice A54 (((recs b.base b.evs)).length) c54), (46, .tuple #[.slice A54 (((recs b.base b.evs)).length) c54, vI 0])] ?_; clear HF; intro a HF
   refine from_done rfl ?_
   refine from_start ?_
   refine fp HF 2 0 [(58, .slice A54 (((recs b.base b.evs)).length) c54), (57, .slice A45 (((([b.cpu, b.lost.toNat, b.evs.length].flatMap vbytes)).length) + ((([(b.evs.getD 0 Ev.zero).seq.toNat, (b.evs.getD 0 Ev.zero).time.toNat].flatMap vbytes)).length)) c45)] ?_; clear HF; intro a HF
   refine from_op HF (i := 2) rfl rfl ?_
   refine e_append HF HM (i := 2) rfl ei_u8 rfl rfl rfl (news := ((recs b.base b.evs).map B8)) (HM.rd (i := 0) rfl) (one_B8 _) (by omega) (by omega) rfl (by decide) ?_
   clear HF HM; intro a w59 A59 c59 HF HM hc59
   refine fp HF 1 3 [(3, .slice A59 ((((([b.cpu, b.lost.toNat, b.evs.length].flatMap vbytes)).length) + ((([(b.evs.getD 0 Ev.zero).seq.toNat, (b.evs.getD 0 Ev.zero).time.toNat].flatMap vbytes)).length)) + (((recs b.base b.evs)).length)) c59)] ?_; clear HF; intro a HF
   refine from_done rfl ?_
   replace HF := HF.to [(3, .slice A59 ((((([b.cpu, b.lost.toNat, b.evs.length].flatMap vbytes)).length) + ((([(b.evs.getD 0 Ev.zero).seq.toNat, (b.evs.getD 0 Ev.zero).time.toNat].flatMap vbytes)).length)) + (((recs b.base b.evs)).length)) c59), (4, vP g4 0), (31, .bool true), (11, .bool false), (2, .slice none 0 0), (1, vP g1 0)]
   replace HM := HM.picks (fs' := [.blk g4 ((b.evs.getD 0 Ev.zero).cells) 65, .row (.slice A59 ((((([b.cpu, b.lost.toNat, b.evs.length].flatMap vbytes)).length) + ((([(b.evs.getD 0 Ev.zero).seq.toNat, (b.evs.getD 0 Ev.zero).time.toNat].flatMap vbytes)).length)) + (((recs b.base b.evs)).length)) c59) ((((([b.cpu, b.lost.toNat, b.evs.length].flatMap vbytes)).length) + ((([(b.evs.getD 0 Ev.zero).seq.toNat, (b.evs.getD 0 Ev.zero).time.toNat].flatMap vbytes)).length)) + (((recs b.base b.evs)).length)) (((([b.cpu, b.lost.toNat, b.evs.length].flatMap vbytes).map B8) ++ (([(b.evs.getD 0 Ev.zero).seq.toNat, (b.evs.getD 0 Ev.zero).time.toNat].flatMap vbytes).map B8)) ++ ((recs b.base b.evs).map B8)) 5 1, .blk g1 (b.cells (some ⟨gA, oA, none⟩) c) 39]) [1, 2, 3] (by decide) rfl
   have hnA59 : (((([b.cpu, b.lost.toNat, b.evs.length].flatMap vbytes)).length) + ((([(b.evs.getD 0 Ev.zero).seq.toNat, (b.evs.getD 0 Ev.zero).time.toNat].flatMap vbytes)).length)) + (((recs b.base b.evs)).length) = b.body.length := by have h := congrArg List.length (body_rows hk2 (by omega)); rw [List.length_append, List.length_append] at h; omega
   replace HM := HM.reRow (i := 1) (ys := b.body.map B8) rfl hnA59 (by rw [← body_rows hk2 (by omega)]; simp)
   rw [hnA59] at hc59
   replace HF := HF.as (t := 3) (u := .slice A59 b.body.length c59) rfl (by rw [hnA59])
   refine wp_seq (from_start ?_)
   refine fp HF 1 0 [(60, .slice A59 b.body.length c59)] ?_; clear HF; intro a HF
   refine fy HF HM 1 rfl rfl rfl (Yl.len rfl rfl (by kernel_rfl)) ?_; clear HF; intro a HF
   refine fp HF 1 2 [(62, vI (IntKind.i64.wrap ((b.body.length : Int) + 12)))] ?_; clear HF; intro a HF
   replace HF := HF.as (t := 62) (u := vI (b.body.length + 12 : Nat)) rfl (i64_nat (by omega) (by omega))
   refine fp HF 1 3 [(7, vI (b.body.length + 12 : Nat))] ?_; clear HF; intro a HF
   refine from_done rfl ?_
   have hbl := body_length b
   refine wp_seq (from_start ?_)
   refine fp HF 2 0 [(64, vI (Int.tmod ((b.body.length + 12 : Nat) : Int) 256)), (63, vI (b.body.length + 12 : Nat))] ?_; clear HF; intro a HF
   replace HF := HF.as (t := 64) (u := vI ((b.body.length + 12) % 256 : Nat)) rfl (tmod_nat .i64 _ 256)
   refine fp HF 1 2 [(65, vB (IntKind.u8.wrap (((b.body.length + 12) % 256 : Nat) : Int)))] ?_; clear HF; intro a HF
   replace HF := HF.as (t := 65) (u := vB ((b.body.length + 12) % 256 : Nat)) rfl ((u8_mod ((b.body.length + 12) % 256)).trans (by rw [Nat.mod_mod]))
   refine fp HF 2 3 [(67, vI (IntKind.i64.wrap (Int.tdiv ((b.body.length + 12 : Nat) : Int) 256))), (66, vI (b.body.length + 12 : Nat))] ?_; clear HF; intro a HF
   replace HF := HF.as (t := 67) (u := vI ((b.body.length + 12) / 256 : Nat)) rfl (tdiv_nat .i64 256 (by show _ ≤ 9223372036854775807; omega))
   refine fp HF 1 5 [(68, vI (Int.tmod (((b.body.length + 12) / 256 : Nat) : Int) 256))] ?_; clear HF; intro a HF
   replace HF := HF.as (t := 68) (u := vI (((b.body.length + 12) / 256) % 256 : Nat)) rfl (tmod_nat .i64 _ 256)
   refine fp HF 1 6 [(69, vB (IntKind.u8.wrap ((((b.body.length + 12) / 256) % 256 : Nat) : Int)))] ?_; clear HF; intro a HF
   replace HF := HF.as (t := 69) (u := vB (((b.body.length + 12) / 256) % 256 : Nat)) rfl ((u8_mod (((b.body.length + 12) / 256) % 256)).trans (by rw [Nat.mod_mod]))
   refine fp HF 2 7 [(71, vI (IntKind.i64.wrap (Int.tdiv ((b.body.length + 12 : Nat) : Int) 65536))), (70, vI (b.body.length + 12 : Nat))] ?_; clear HF; intro a HF
   replace HF := HF.as (t := 71) (u := vI ((b.body.length + 12) / 65536 : Nat)) rfl (tdiv_nat .i64 65536 (by show _ ≤ 9223372036854775807; omega))
   refine fp HF 1 9 [(72, vI (Int.tmod (((b.body.length + 12) / 65536 : Nat) : Int) 256))] ?_; clear HF; intro a HF
   replace HF := HF.as (t := 72) (u := vI (((b.body.length + 12) / 65536) % 256 : Nat)) rfl (tmod_nat .i64 _ 256)
   refine fp HF 1 10 [(73, vB (IntKind.u8.wrap ((((b.body.length + 12) / 65536) % 256 : Nat) : Int)))] ?_; clear HF; intro a HF
   replace HF := HF.as (t := 73) (u := vB (((b.body.length + 12) / 65536) % 256 : Nat)) rfl ((u8_mod (((b.body.length + 12) / 65536) % 256)).trans (by rw [Nat.mod_mod]))
   refine fp HF 2 11 [(75, vI (IntKind.i64.wrap (Int.tdiv ((b.body.length + 12 : Nat) : Int) 16777216))), (74, vI (b.body.length + 12 : Nat))] ?_; clear HF; intro a HF
   replace HF := HF.as (t := 75) (u := vI ((b.body.length + 12) / 16777216 : Nat)) rfl (tdiv_nat .i64 16777216 (by show _ ≤ 9223372036854775807; omega))
   refine fp HF 1 13 [(76, vB (IntKind.u8.wrap (((b.body.length + 12) / 16777216 : Nat) : Int)))] ?_; clear HF; intro a HF
   replace HF := HF.as (t := 76) (u := vB (((b.body.length + 12) / 16777216) % 256 : Nat)) rfl (u8_mod ((b.body.length + 12) / 16777216))
   refine fp HF 1 14 [(77, vP g1 0)] ?_; clear HF; intro a HF
   refine fy HF HM 15 rfl rfl rfl (v := vB b.kind) (Yl.load1 rfl rfl (by kernel_rfl) (fun _ h => h.cell (i := 2) rfl (rfl))) ?_; clear HF; intro a HF
   refine from_op HF (i := 16) rfl rfl ?_
   refine e_slice HF HM (vs := [(0, vB ((b.body.length + 12) % 256 : Nat)), (1, vB (((b.body.length + 12) / 256) % 256 : Nat)), (2, vB (((b.body.length + 12) / 65536) % 256 : Nat)), (3, vB (((b.body.length + 12) / 16777216) % 256 : Nat)), (4, vB 113), (5, vB 116), (6, vB 1), (7, vB b.kind)]) (cs := #[vB ((b.body.length + 12) % 256 : Nat), vB (((b.body.length + 12) / 256) % 256 : Nat), vB (((b.body.length + 12) / 65536) % 256 : Nat), vB (((b.body.length + 12) / 16777216) % 256 : Nat), vB 113, vB 116, vB 1, vB b.kind]) rfl ei_u8 (by decide) rfl (by kernel_rfl) rfl (by decide) ?_
   clear HF HM; intro a w79 g79 HF HM
   refine fp HF 1 17 [(8, vS g79 8 8)] ?_; clear HF; intro a HF
   refine from_done rfl ?_
   replace HF := HF.to [(8, vS g79 8 8), (3, .slice A59 b.body.length c59), (4, vP g4 0), (31, .bool true), (11, .bool false), (2, .slice none 0 0), (1, vP g1 0)]
   refine wp_seq (from_start ?_)
   refine fp HF 2 0 [(81, .slice A59 b.body.length c59), (80, vS g79 8 8)] ?_; clear HF; intro a HF
   refine from_op HF (i := 2) rfl rfl ?_
   replace HM := HM.blkRow (i := 0) (n := 8) (size := 1) rfl rfl (by decide)
   refine e_append HF HM (i := 0) rfl ei_u8 rfl rfl rfl (news := (b.body.map B8)) (HM.rd (i := 2) rfl) (one_B8 _) (by omega) (by omega) rfl (by decide) ?_
   clear HF HM; intro a w82 A82 c82 HF HM hc82
   refine fp HF 1 3 [(2, .slice A82 (8 + b.body.length) c82)] ?_; clear HF; intro a HF
   refine from_done rfl ?_
   have hnA82 : 8 + b.body.length = b.raw.length := by rw [raw_length]
   replace HM := HM.reRow (i := 0) (ys := b.raw.map B8) rfl hnA82 (raw10 b)
   rw [hnA82] at hc82
   replace HF := HF.as (t := 2) (u := .slice A82 b.raw.length c82) rfl (by rw [hnA82])
   replace HF := HF.as (t := 82) (u := .slice A82 b.raw.length c82) rfl (by rw [hnA82])
   refine wp_ret ?_
   exact ret1 rfl HF (.tmp HF rfl) (⟨⟨_, _, rfl, HM.own (i := 0) rfl, hc82⟩, HM.below⟩)
  ·have HF := HF.on 31 hb31
   have hd31 := of_decide_eq_false hb31
   have hnA27 : (([b.cpu, b.lost.toNat, b.evs.length].flatMap vbytes)).length = b.body.length := by rw [body_none hk2 (by omega)]
   replace HM := HM.reRow (i := 0) (ys := b.body.map B8) rfl hnA27 (by rw [body_none hk2 (by omega)])
   replace HF := HF.as (t := 3) (u := .slice A27 b.body.length c27) rfl (by rw [hnA27])
   refine cond_false HF rfl (wp_skip (wp_seq (from_start ?_)))
   refine fp HF 1 0 [(60, .slice A27 b.body.length c27)] ?_; clear HF; intro a HF
   refine fy HF HM 1 rfl rfl rfl (Yl.len rfl rfl (by kernel_rfl)) ?_; clear HF; intro a HF
   refine fp HF 1 2 [(62, vI (IntKind.i64.wrap ((b.body.length : Int) + 12)))] ?_; clear HF; intro a HF
   replace HF := HF.as (t := 62) (u := vI (b.body.length + 12 : Nat)) rfl (i64_nat (by omega) (by omega))
   refine fp HF 1 3 [(7, vI (b.body.length + 12 : Nat))] ?_; clear HF; intro a HF
   refine from_done rfl ?_
   have hbl := body_length b
   refine wp_seq (from_start ?_)
   refine fp HF 2 0 [(64, vI (Int.tmod ((b.body.length + 12 : Nat) : Int) 256)), (63, vI (b.body.length + 12 : Nat))] ?_; clear HF; intro a HF
   replace HF := HF.as (t := 64) (u := vI ((b.body.length + 12) % 256 : Nat)) rfl (tmod_nat .i64 _ 256)
   refine fp HF 1 2 [(65, vB (IntKind.u8.wrap (((b.body.length + 12) % 256 : Nat) : Int)))] ?_; clear HF; intro a HF
   replace HF := HF.as (t := 65) (u := vB ((b.body.length + 12) % 256 : Nat)) rfl ((u8_mod ((b.body.length + 12) % 256)).trans (by rw [Nat.mod_mod]))
   refine fp HF 2 3 [(67, vI (IntKind.i64.wrap (Int.tdiv ((b.body.length + 12 : Nat) : Int) 256))), (66, vI (b.body.length + 12 : Nat))] ?_; clear HF; intro a HF
   replace HF := HF.as (t := 67) (u := vI ((b.body.length + 12) / 256 : Nat)) rfl (tdiv_nat .i64 256 (by show _ ≤ 9223372036854775807; omega))
   refine fp HF 1 5 [(68, vI (Int.tmod (((b.body.length + 12) / 256 : Nat) : Int) 256))] ?_; clear HF; intro a HF
   replace HF := HF.as (t := 68) (u := vI (((b.body.length + 12) / 256) % 256 : Nat)) rfl (tmod_nat .i64 _ 256)
   refine fp HF 1 6 [(69, vB (IntKind.u8.wrap ((((b.body.length + 12) / 256) % 256 : Nat) : Int)))] ?_; clear HF; intro a HF
   replace HF := HF.as (t := 69) (u := vB (((b.body.length + 12) / 256) % 256 : Nat)) rfl ((u8_mod (((b.body.length + 12) / 256) % 256)).trans (by rw [Nat.mod_mod]))
   refine fp HF 2 7 [(71, vI (IntKind.i64.wrap (Int.tdiv ((b.body.length + 12 : Nat) : Int) 65536))), (70, vI (b.body.length + 12 : Nat))] ?_; clear HF; intro a HF
   replace HF := HF.as (t := 71) (u := vI ((b.body.length + 12) / 65536 : Nat)) rfl (tdiv_nat .i64 65536 (by show _ ≤ 9223372036854775807; omega))
   refine fp HF 1 9 [(72, vI (Int.tmod (((b.body.length + 12) / 65536 : Nat) : Int) 256))] ?_; clear HF; intro a HF
   replace HF := HF.as (t := 72) (u := vI (((b.body.length + 12) / 65536) % 256 : Nat)) rfl (tmod_nat .i64 _ 256)
   refine fp HF 1 10 [(73, vB (IntKind.u8.wrap ((((b.body.length + 12) / 65536) % 256 : Nat) : Int)))] ?_; clear HF; intro a HF
   replace HF := HF.as (t := 73) (u := vB (((b.body.length + 12) / 65536) % 256 : Nat)) rfl ((u8_mod (((b.body.length + 12) / 65536) % 256)).trans (by rw [Nat.mod_mod]))
   refine fp HF 2 11 [(75, vI (IntKind.i64.wrap (Int.tdiv ((b.body.length + 12 : Nat) : Int) 16777216))), (74, vI (b.body.length + 12 : Nat))] ?_; clear HF; intro a HF
   replace HF := HF.as (t := 75) (u := vI ((b.body.length + 12) / 16777216 : Nat)) rfl (tdiv_nat .i64 16777216 (by show _ ≤ 9223372036854775807; omega))
   refine fp HF 1 13 [(76, vB (IntKind.u8.wrap (((b.body.length + 12) / 16777216 : Nat) : Int)))] ?_; clear HF; intro a HF
   replace HF := HF.as (t := 76) (u := vB (((b.body.length + 12) / 16777216) % 256 : Nat)) rfl (u8_mod ((b.body.length + 12) / 16777216))
   refine fp HF 1 14 [(77, vP g1 0)] ?_; clear HF; intro a HF
   refine fy HF HM 15 rfl rfl rfl (v := vB b.kind) (Yl.load1 rfl rfl (by kernel_rfl) (fun _ h => h.cell (i := 1) rfl (rfl))) ?_; clear HF; intro a HF
   refine from_op HF (i := 16) rfl rfl ?_
   refine e_slice HF HM (vs := [(0, vB ((b.body.length + 12) % 256 : Nat)), (1, vB (((b.body.length + 12) / 256) % 256 : Nat)), (2, vB (((b.body.length + 12) / 65536) % 256 : Nat)), (3, vB (((b.body.length + 12) / 16777216) % 256 : Nat)), (4, vB 113), (5, vB 116), (6, vB 1), (7, vB b.kind)]) (cs := #[vB ((b.body.length + 12) % 256 : Nat), vB (((b.body.length + 12) / 256) % 256 : Nat), vB (((b.body.length + 12) / 65536) % 256 : Nat), vB (((b.body.length + 12) / 16777216) % 256 : Nat), vB 113, vB 116, vB 1, vB b.kind]) rfl ei_u8 (by decide) rfl (by kernel_rfl) rfl (by decide) ?_
   clear HF HM; intro a w79 g79 HF HM
   refine fp HF 1 17 [(8, vS g79 8 8)] ?_; clear HF; intro a HF
   refine from_done rfl ?_
   replace HF := HF.to [(8, vS g79 8 8), (3, .slice A27 b.body.length c27), (31, .bool false), (11, .bool false), (2, .slice none 0 0), (1, vP g1 0)]
   refine wp_seq (from_start ?_)
   refine fp HF 2 0 [(81, .slice A27 b.body.length c27), (80, vS g79 8 8)] ?_; clear HF; intro a HF
   refine from_op HF (i := 2) rfl rfl ?_
   replace HM := HM.blkRow (i := 0) (n := 8) (size := 1) rfl rfl (by decide)
   refine e_append HF HM (i := 0) rfl ei_u8 rfl rfl rfl (news := (b.body.map B8)) (HM.rd (i := 1) rfl) (one_B8 _) (by omega) (by omega) rfl (by decide) ?_
   clear HF HM; intro a w82 A82 c82 HF HM hc82
   refine fp HF 1 3 [(2, .slice A82 (8 + b.body.length) c82)] ?_; clear HF; intro a HF
   refine from_done rfl ?_
   have hnA82 : 8 + b.body.length = b.raw.length := by rw [raw_length]
   replace HM := HM.reRow (i := 0) (ys := b.raw.map B8) rfl hnA82 (raw10 b)
   rw [hnA82] at hc82
   replace HF := HF.as (t := 2) (u := .slice A82 b.raw.length c82) rfl (by rw [hnA82])
   replace HF := HF.as (t := 82) (u := .slice A82 b.raw.length c82) rfl (by rw [hnA82])
   refine wp_ret ?_
   exact ret1 rfl HF (.tmp HF rfl) (⟨⟨_, _, rfl, HM.own (i := 0) rfl, hc82⟩, HM.below⟩)
set_option maxRecDepth 100000 in
set_option maxHeartbeats 4000000 in
theorem check10_any (b : Bk) (hok : b.Ok) (A : Option Addr) (c : Nat) (w : World) (hr : Rd w w.heap.size 11 A b.evs.length (b.evs.flatMap evL)) (hn : b.evs.length ≤ 1000000) :
    Calls Tryd.prog 30 #[.agg (b.cells A c)] w (Is w (.int .i64 (b.err : Int))) := by
 refine calls_enter (vs := [.agg (b.cells A c)]) Tryd.func30 rfl rfl (by kernel_rfl) (σ0 := [(0, .agg (b.cells A c))]) rfl ?_
 intro a HF
 have HM := Mem.start w
 refine wp_seq (from_start ?_)
 refine from_op HF (i := 0) rfl rfl ?_
 refine e_box HF HM (cs := (b.cells A c)) rfl rfl rfl rfl (by decide) ?_
 clear HF HM; intro a w1 g1 HF HM
 refine fp HF 1 1 [(2, vI 0)] ?_; clear HF; intro a HF
 refine from_done rfl ?_
 refine wp_seq (wp_seq (from_start ?_))
 refine fy HF HM 0 rfl rfl rfl (v := .agg (b.cells A c)) (Yl.loadS rfl rfl si_rbk rfl (fun _ h => range_of_block (h.blk (i := 0) rfl))) ?_; clear HF; intro a HF
 refine from_op HF (i := 1) rfl rfl ?_
 refine e_call HF (vs := [.agg (b.cells A c)]) rfl (by kernel_rfl) (by kernel_rfl) rfl (by decide) (fits10_any b hok A c _ (HM.old hr) hn) ?_
 rintro _ w4 ⟨rfl, hbw⟩
 refine ⟨_, rfl, ?_⟩
 replace HM := HM.call hbw
 clear HF; intro a HF
 refine fp HF 1 2 [(5, .bool (!b.fits))] ?_; clear HF; intro a HF
 refine from_done rfl ?_
 rcases Bool.eq_false_or_eq_true (!b.fits) with hb5 | hb5
 ·have HF := HF.on 5 hb5
  have hf : b.fits = false := by simpa using hb5
  refine cond_true HF rfl (wp_seq (from_start ?_))
  refine fp HF 1 0 [(2, vI 107)] ?_; clear HF; intro a HF
  refine from_done rfl ?_
  refine wp_ret ?_
  exact ret1 rfl HF (.tmp HF rfl) (⟨by rw [show b.err = 107 from by unfold Bk.err; rw [if_pos hf]]; rfl, HM.below⟩)
 ·have HF := HF.on 5 hb5
  have hf : b.fits = true := by simpa using hb5
  refine cond_false HF rfl (wp_skip (wp_seq (wp_seq (from_start ?_))))
  refine fy HF HM 0 rfl rfl rfl (v := .agg (b.cells A c)) (Yl.loadS rfl rfl si_rbk rfl (fun _ h => range_of_block (h.blk (i := 0) rfl))) ?_; clear HF; intro a HF
  refine from_op HF (i := 1) rfl rfl ?_
  refine e_call HF (vs := [.agg (b.cells A c)]) rfl (by kernel_rfl) (by kernel_rfl) rfl (by decide) (bytes10_any b (hok) A c _ (HM.old hr) (hn) (hf)) ?_
  rintro _ w7 ⟨⟨A7, c7, rfl, ho, hc7⟩, hbw⟩
  refine ⟨_, rfl, ?_⟩
  replace HM := HM.callRow hbw ho
  clear HF; intro a HF
  have hrw7 := raw_length b
  have hbl7 := body_length b
  refine fy HF HM 2 rfl rfl rfl (Yl.len rfl rfl (by kernel_rfl)) ?_; clear HF; intro a HF
  refine fp HF 1 3 [(9, vI (IntKind.i64.wrap ((((b.raw).length : Nat) : Int) + 4)))] ?_; clear HF; intro a HF
  replace HF := HF.as (t := 9) (u := vI ((b.raw).length + 4 : Nat)) rfl (i64_nat (by omega) (by omega))
  refine fp HF 1 4 [(10, .bool (decide ((((b.raw).length + 4 : Nat) : Int) > (4096 : Int))))] ?_; clear HF; intro a HF
  refine from_done rfl ?_
  replace HM := HM.picks (fs' := [.blk g1 (b.cells A c) 39]) [1] (by decide) rfl
  rcases Bool.eq_false_or_eq_true (decide ((((b.raw).length + 4 : Nat) : Int) > (4096 : Int))) with hb10 | hb10
  ·have HF := HF.on 10 hb10
   have hd10 := of_decide_eq_true hb10
   refine cond_true HF rfl (wp_seq (from_start ?_))
   refine fp HF 1 0 [(2, vI 3)] ?_; clear HF; intro a HF
   refine from_done rfl ?_
   refine wp_ret ?_
   exact ret1 rfl HF (.tmp HF rfl) (⟨by rw [show b.err = 3 from by unfold Bk.err; rw [if_neg (by rw [hf]; decide), if_pos (by omega)]]; rfl, HM.below⟩)
  ·have HF := HF.on 10 hb10
   have hd10 := of_decide_eq_false hb10
   refine cond_false HF rfl (wp_skip (wp_seq (from_start ?_)))
   refine fp HF 1 0 [(2, vI 0)] ?_; clear HF; intro a HF
   refine from_done rfl ?_
   refine wp_ret ?_
   exact ret1 rfl HF (.tmp HF rfl) (⟨by rw [show b.err = 0 from by unfold Bk.err; rw [if_neg (by rw [hf]; decide), if_neg (by omega)]]; rfl, HM.below⟩)
end Go.Proofs.YtnakabnmjnfpcaaDoor

set_option linter.all false
namespace Go.Proofs.YtnakabnmjnfpcaaDoor
open Go.RowKit
theorem same_all {b d : Bk} (h1 : b.kind = d.kind) (h2 : b.cpu = d.cpu) (h3 : b.lost = d.lost) (h4 : b.next = d.next) (h5 : b.evs.length = d.evs.length) (h : ∀ i, i < b.evs.length → b.evs.getD i Ev.zero = d.evs.getD i Ev.zero) : b = d := by
  have he : b.evs = d.evs := by
    apply List.ext_getElem h5
    intro i hi hj
    have := h i hi
    rwa [List.getD_eq_getElem?_getD, List.getD_eq_getElem?_getD, List.getElem?_eq_getElem hi, List.getElem?_eq_getElem hj] at this
  cases b; cases d
  simp only at h1 h2 h3 h4 he
  subst h1; subst h2; subst h3; subst h4; subst he
  rfl
theorem same_not {b d : Bk} (h : b.kind ≠ d.kind ∨ b.cpu ≠ d.cpu ∨ b.lost ≠ d.lost ∨ b.next ≠ d.next ∨ b.evs.length ≠ d.evs.length) : ¬ b = d := by
  rintro rfl
  omega
set_option maxRecDepth 100000 in
set_option maxHeartbeats 4000000 in
theorem length10_any (A : Option Addr) (n cp : Nat) (l : List Nat) (w : World) (hr : Rd w w.heap.size 1 A n (l.map B8)) (hln : l.length = n) (hn : n ≤ 9223372036854775807) (hl : ∀ b ∈ l, b < 256) :
    Calls Tryd.prog 10 #[.slice A n cp] w (Is w (.tuple #[.int .i64 ((lenR l).1 : Int), .int .i64 ((lenR l).2 : Int)])) := by
 refine calls_enter (vs := [.slice A n cp]) Tryd.func10 rfl rfl (by kernel_rfl) (σ0 := [(0, .slice A n cp)]) rfl ?_
 intro a HF
 have HM := Mem.start w
 refine wp_seq (from_start ?_)
 refine fp HF 2 0 [(3, vI 0), (2, vI 0)] ?_; clear HF; intro a HF
 refine from_done rfl ?_
 refine wp_seq (wp_seq (from_start ?_))
 refine fp HF 1 0 [(5, .slice A n cp)] ?_; clear HF; intro a HF
 refine fy HF HM 1 rfl rfl rfl (Yl.len rfl rfl (by kernel_rfl)) ?_; clear HF; intro a HF
 refine fp HF 1 2 [(7, .bool (decide ((n : Int) < (4 : Int))))] ?_; clear HF; intro a HF
 refine from_done rfl ?_
 rcases Bool.eq_false_or_eq_true (decide ((n : Int) < (4 : Int))) with hb7 | hb7
 ·have HF := HF.on 7 hb7
  have hd7 := of_decide_eq_true hb7
  refine cond_true HF rfl (wp_seq (from_start ?_))
  refine fp HF 2 0 [(3, vI 100), (2, vI 0)] ?_; clear HF; intro a HF
  refine from_done rfl ?_
  refine wp_ret ?_
  exact ret2 rfl HF (.tmp HF rfl) (.tmp HF rfl) (len_is (by unfold lenR; rw [if_pos (by omega)]) HM.below)
 ·have HF := HF.on 7 hb7
  have hd7 := of_decide_eq_false hb7
  obtain ⟨gA, oA, rfl, _⟩ := hr.some_at (Nat.lt_of_le_of_lt (Nat.zero_le _) (show 0 < n from by omega)) (by decide)
  refine cond_false HF rfl (wp_skip (wp_seq ?_))
  refine any_start (by kernel_rfl) (fun wS => Mem w wS []) [] ?_
  replace HM := HM.drew
  have HS := HM.picks (fs' := []) [] (by decide) rfl
  refine ap HF (fun _ => HS) [0, 4, 10, 16] #[true, false, false, false, true, false, false, false, false, false, true, false, false, false, false, false, true, false, false, false, false, false, false] [(24, .slice (some ⟨gA, oA, none⟩) n cp), (18, .slice (some ⟨gA, oA, none⟩) n cp), (12, .slice (some ⟨gA, oA, none⟩) n cp), (8, .slice (some ⟨gA, oA, none⟩) n cp)] ?_; clear HF; intro a HF
  refine ay HF HS 1 rfl rfl rfl (v := vP gA oA) (Yl.indexAddr (ad := ⟨gA, oA, none⟩) (y := 0) (sz := 1) rfl rfl rfl (by omega) (by kernel_rfl)) ?_; clear HF; intro a HF
  have hx35 := getD_lt hl (k := 0) (by first | omega | (simp; omega))
  refine ay HF HS 2 rfl rfl rfl (v := vB (l.getD 0 0)) (Yl.load1 rfl rfl (by kernel_rfl) (fun _ h => (h.old hr).oneAt1 (k := 0) (map_at (F := B8) (k := 0) (x := (l.getD 0 0)) ((getD_at 0 (k := 0) (by first | omega | (simp; omega))))))) ?_; clear HF; intro a HF
  refine any_pure HF (fun _ => HS) (i := 3) rfl rfl (d := 11) rfl (by decide) (by kernel_rfl) (fun _ _ _ h => h) (v := vI (IntKind.i64.wrap ((l.getD 0 0) : Int))) (fun _ => Yl.pure (by kernel_rfl)) ?_; clear HF; intro a HF
  replace HF := HF.as (t := 11) (u := vI (l.getD 0 0)) rfl (i64_nat rfl (by omega))
  refine ay HF HS 5 rfl rfl rfl (v := vP gA (oA + 1)) (Yl.indexAddr (ad := ⟨gA, oA, none⟩) (y := 1) (sz := 1) rfl rfl rfl (by omega) (by kernel_rfl)) ?_; clear HF; intro a HF
  have hx40 := getD_lt hl (k := 1) (by first | omega | (simp; omega))
  refine ay HF HS 6 rfl rfl rfl (v := vB (l.getD 1 0)) (Yl.load1 rfl rfl (by kernel_rfl) (fun _ h => (h.old hr).oneAt1 (k := 1) (map_at (F := B8) (k := 1) (x := (l.getD 1 0)) ((getD_at 0 (k := 1) (by first | omega | (simp; omega))))))) ?_; clear HF; intro a HF
  refine any_pure HF (fun _ => HS) (i := 7) rfl rfl (d := 15) rfl (by decide) (by kernel_rfl) (fun _ _ _ h => h) (v := vI (IntKind.i64.wrap ((l.getD 1 0) : Int))) (fun _ => Yl.pure (by kernel_rfl)) ?_; clear HF; intro a HF
  replace HF := HF.as (t := 15) (u := vI (l.getD 1 0)) rfl (i64_nat rfl (by omega))
  refine any_pure HF (fun _ => HS) (i := 8) rfl rfl (d := 16) rfl (by decide) (by kernel_rfl) (fun _ _ _ h => h) (v := vI (IntKind.i64.wrap (256 * ((l.getD 1 0) : Int)))) (fun _ => Yl.pure (by kernel_rfl)) ?_; clear HF; intro a HF
  replace HF := HF.as (t := 16) (u := vI (256 * (l.getD 1 0) : Nat)) rfl (i64_nat (by omega) (by omega))
  refine any_pure HF (fun _ => HS) (i := 9) rfl rfl (d := 17) rfl (by decide) (by kernel_rfl) (fun _ _ _ h => h) (v := vI (IntKind.i64.wrap (((l.getD 0 0) : Int) + ((256 * (l.getD 1 0) : Nat) : Int)))) (fun _ => Yl.pure (by kernel_rfl)) ?_; clear HF; intro a HF
  replace HF := HF.as (t := 17) (u := vI ((l.getD 0 0) + (256 * (l.getD 1 0)) : Nat)) rfl (i64_nat (by omega) (by omega))
  refine ay HF HS 11 rfl rfl rfl (v := vP gA (oA + 2)) (Yl.indexAddr (ad := ⟨gA, oA, none⟩) (y := 2) (sz := 1) rfl rfl rfl (by omega) (by kernel_rfl)) ?_; clear HF; intro a HF
  have hx49 := getD_lt hl (k := 2) (by first | omega | (simp; omega))
  refine ay HF HS 12 rfl rfl rfl (v := vB (l.getD 2 0)) (Yl.load1 rfl rfl (by kernel_rfl) (fun _ h => (h.old hr).oneAt1 (k := 2) (map_at (F := B8) (k := 2) (x := (l.getD 2 0)) ((getD_at 0 (k := 2) (by first | omega | (simp; omega))))))) ?_; clear HF; intro a HF
  refine any_pure HF (fun _ => HS) (i := 13) rfl rfl (d := 21) rfl (by decide) (by kernel_rfl) (fun _ _ _ h => h) (v := vI (IntKind.i64.wrap ((l.getD 2 0) : Int))) (fun _ => Yl.pure (by kernel_rfl)) ?_; clear HF; intro a HF
  replace HF := HF.as (t := 21) (u := vI (l.getD 2 0)) rfl (i64_nat rfl (by omega))
  refine any_pure HF (fun _ => HS) (i := 14) rfl rfl (d := 22) rfl (by decide) (by kernel_rfl) (fun _ _ _ h => h) (v := vI (IntKind.i64.wrap (65536 * ((l.getD 2 0) : Int)))) (fun _ => Yl.pure (by kernel_rfl)) ?_; clear HF; intro a HF
  replace HF := HF.as (t := 22) (u := vI (65536 * (l.getD 2 0) : Nat)) rfl (i64_nat (by omega) (by omega))
  refine any_pure HF (fun _ => HS) (i := 15) rfl rfl (d := 23) rfl (by decide) (by kernel_rfl) (fun _ _ _ h => h) (v := vI (IntKind.i64.wrap ((((l.getD 0 0) + (256 * (l.getD 1 0)) : Nat) : Int) + ((65536 * (l.getD 2 0) : Nat) : Int)))) (fun _ => Yl.pure (by kernel_rfl)) ?_; clear HF; intro a HF
  replace HF := HF.as (t := 23) (u := vI ((l.getD 0 0) + (256 * (l.getD 1 0)) + (65536 * (l.getD 2 0)) : Nat)) rfl (i64_nat (by omega) (by omega))
  refine ay HF HS 17 rfl rfl rfl (v := vP gA (oA + 3)) (Yl.indexAddr (ad := ⟨gA, oA, none⟩) (y := 3) (sz := 1) rfl rfl rfl (by omega) (by kernel_rfl)) ?_; clear HF; intro a HF
  have hx58 := getD_lt hl (k := 3) (by first | omega | (simp; omega))
  refine ay HF HS 18 rfl rfl rfl (v := vB (l.getD 3 0)) (Yl.load1 rfl rfl (by kernel_rfl) (fun _ h => (h.old hr).oneAt1 (k := 3) (map_at (F := B8) (k := 3) (x := (l.getD 3 0)) ((getD_at 0 (k := 3) (by first | omega | (simp; omega))))))) ?_; clear HF; intro a HF
  refine any_pure HF (fun _ => HS) (i := 19) rfl rfl (d := 27) rfl (by decide) (by kernel_rfl) (fun _ _ _ h => h) (v := vI (IntKind.i64.wrap ((l.getD 3 0) : Int))) (fun _ => Yl.pure (by kernel_rfl)) ?_; clear HF; intro a HF
  replace HF := HF.as (t := 27) (u := vI (l.getD 3 0)) rfl (i64_nat rfl (by omega))
  refine any_pure HF (fun _ => HS) (i := 20) rfl rfl (d := 28) rfl (by decide) (by kernel_rfl) (fun _ _ _ h => h) (v := vI (IntKind.i64.wrap (16777216 * ((l.getD 3 0) : Int)))) (fun _ => Yl.pure (by kernel_rfl)) ?_; clear HF; intro a HF
  replace HF := HF.as (t := 28) (u := vI (16777216 * (l.getD 3 0) : Nat)) rfl (i64_nat (by omega) (by omega))
  refine any_pure HF (fun _ => HS) (i := 21) rfl rfl (d := 29) rfl (by decide) (by kernel_rfl) (fun _ _ _ h => h) (v := vI (IntKind.i64.wrap ((((l.getD 0 0) + (256 * (l.getD 1 0)) + (65536 * (l.getD 2 0)) : Nat) : Int) + ((16777216 * (l.getD 3 0) : Nat) : Int)))) (fun _ => Yl.pure (by kernel_rfl)) ?_; clear HF; intro a HF
  replace HF := HF.as (t := 29) (u := vI (num4 l)) rfl (i64_nat (by unfold num4; omega) (by unfold num4; omega))
  refine ap HF (fun _ => HS) [22] #[true, true, true, true, true, true, true, true, true, true, true, true, true, true, true, true, true, true, true, true, true, true, true] [(4, vI (num4 l))] ?_; clear HF; intro a HF
  refine any_done (by kernel_rfl) ?_
  replace HF := HF.to [(4, vI (num4 l)), (7, .bool false), (3, vI 0), (2, vI 0), (0, .slice (some ⟨gA, oA, none⟩) n cp)]
  refine wp_seq (wp_seq (from_start ?_))
  refine fp HF 3 0 [(32, .bool (decide ((num4 l : Int) < (13 : Int)))), (31, .bool (decide ((num4 l : Int) < (13 : Int)))), (30, vI (num4 l))] ?_; clear HF; intro a HF
  rcases Bool.eq_false_or_eq_true (decide ((num4 l : Int) < (13 : Int))) with hb32 | hb32
  ·have HF := HF.on 32 hb32
   have hd32 := of_decide_eq_true hb32
   refine fp HF 3 3 [(35, .bool true), (34, undef), (33, undef)] ?_; clear HF; intro a HF
   refine from_done rfl ?_
   refine cond_true HF rfl (wp_seq (from_start ?_))
   refine fp HF 2 0 [(3, vI 101), (2, vI 0)] ?_; clear HF; intro a HF
   refine from_done rfl ?_
   refine wp_ret ?_
   exact ret2 rfl HF (.tmp HF rfl) (.tmp HF rfl) (len_is (by unfold lenR; rw [if_neg (by omega), if_pos (by omega)]) HM.below)
  ·have HF := HF.on 32 hb32
   have hd32 := of_decide_eq_false hb32
   refine fp HF 3 3 [(35, .bool (decide ((num4 l : Int) > (4096 : Int)))), (34, .bool (decide ((num4 l : Int) > (4096 : Int)))), (33, vI (num4 l))] ?_; clear HF; intro a HF
   refine from_done rfl ?_
   rcases Bool.eq_false_or_eq_true (decide ((num4 l : Int) > (4096 : Int))) with hb35 | hb35
   ·have HF := HF.on 35 hb35
    have hd35 := of_decide_eq_true hb35
    refine cond_true HF rfl (wp_seq (from_start ?_))
    refine fp HF 2 0 [(3, vI 101), (2, vI 0)] ?_; clear HF; intro a HF
    refine from_done rfl ?_
    refine wp_ret ?_
    exact ret2 rfl HF (.tmp HF rfl) (.tmp HF rfl) (len_is (by unfold lenR; rw [if_neg (by omega), if_pos (by omega)]) HM.below)
   ·have HF := HF.on 35 hb35
    have hd35 := of_decide_eq_false hb35
    refine cond_false HF rfl (wp_skip (wp_seq (wp_seq (from_start ?_))))
    refine fp HF 1 0 [(36, .slice (some ⟨gA, oA, none⟩) n cp)] ?_; clear HF; intro a HF
    refine fy HF HM 1 rfl rfl rfl (Yl.len rfl rfl (by kernel_rfl)) ?_; clear HF; intro a HF
    refine fp HF 2 2 [(39, .bool (decide ((n : Int) < (num4 l : Int)))), (38, vI (num4 l))] ?_; clear HF; intro a HF
    refine from_done rfl ?_
    rcases Bool.eq_false_or_eq_true (decide ((n : Int) < (num4 l : Int))) with hb39 | hb39
    ·have HF := HF.on 39 hb39
     have hd39 := of_decide_eq_true hb39
     refine cond_true HF rfl (wp_seq (from_start ?_))
     refine fp HF 2 0 [(3, vI 100), (2, vI 0)] ?_; clear HF; intro a HF
     refine from_done rfl ?_
     refine wp_ret ?_
     exact ret2 rfl HF (.tmp HF rfl) (.tmp HF rfl) (len_is (by unfold lenR; rw [if_neg (by omega), if_neg (by omega), if_pos (by omega)]) HM.below)
    ·have HF := HF.on 39 hb39
     have hd39 := of_decide_eq_false hb39
     refine cond_false HF rfl (wp_skip (wp_seq (from_start ?_)))
     refine fp HF 3 0 [(3, vI 0), (2, vI (num4 l)), (40, vI (num4 l))] ?_; clear HF; intro a HF
     refine from_done rfl ?_
     refine wp_ret ?_
     exact ret2 rfl HF (.tmp HF rfl) (.tmp HF rfl) (len_is (by unfold lenR; rw [if_neg (by omega), if_neg (by omega), if_neg (by omega)]) HM.below)
set_option maxRecDepth 100000 in
set_option maxHeartbeats 4000000 in
theorem same10_any (b d : Bk) (A A2 : Option Addr) (c c2 : Nat) (w : World) (hr : Rd w w.heap.size 11 A b.evs.length (b.evs.flatMap evL)) (hr2 : Rd w w.heap.size 11 A2 d.evs.length (d.evs.flatMap evL)) (hn : b.evs.length ≤ 1000000) :
    Calls Tryd.prog 13 #[.agg (b.cells A c), .agg (d.cells A2 c2)] w (Is w (.bool (decide (b = d)))) := by
 refine calls_enter (vs := [.agg (b.cells A c), .agg (d.cells A2 c2)]) Tryd.func13 rfl rfl (by kernel_rfl) (σ0 := [(0, .agg (b.cells A c)), (1, .agg (d.cells A2 c2))]) rfl ?_
 intro a HF
 have HM := Mem.start w
 refine wp_seq (from_start ?_)
 refine from_op HF (i := 0) rfl rfl ?_
 refine e_box HF HM (cs := (b.cells A c)) rfl rfl rfl rfl (by decide) ?_
 clear HF HM; intro a w2 g2 HF HM
 refine from_op HF (i := 1) rfl rfl ?_
 refine e_box HF HM (cs := (d.cells A2 c2)) rfl rfl rfl rfl (by decide) ?_
 clear HF HM; intro a w3 g3 HF HM
 refine fp HF 1 2 [(4, .bool false)] ?_; clear HF; intro a HF
 refine from_done rfl ?_
 refine wp_seq (wp_seq (from_start ?_))
 refine fp HF 1 0 [(6, vP g2 0)] ?_; clear HF; intro a HF
 refine fy HF HM 1 rfl rfl rfl (v := vB b.kind) (Yl.load1 rfl rfl (by kernel_rfl) (fun _ h => h.cell (i := 1) rfl (rfl))) ?_; clear HF; intro a HF
 refine fp HF 1 2 [(8, vP g3 0)] ?_; clear HF; intro a HF
 refine fy HF HM 3 rfl rfl rfl (v := vB d.kind) (Yl.load1 rfl rfl (by kernel_rfl) (fun _ h => h.cell (i := 0) rfl (rfl))) ?_; clear HF; intro a HF
 refine fp HF 2 4 [(11, .bool ((b.kind : Int) != (d.kind : Int))), (10, .bool ((b.kind : Int) != (d.kind : Int)))] ?_; clear HF; intro a HF
 rcases Bool.eq_false_or_eq_true ((b.kind : Int) != (d.kind : Int)) with hb11 | hb11
 ·have HF := HF.on 11 hb11
  have hd11 := bne_iff_ne.1 hb11
  refine fp HF 29 6 [(40, .bool true), (39, undef), (38, undef), (37, undef), (36, undef), (35, undef), (34, undef), (33, undef), (32, .bool true), (31, .bool true), (30, undef), (29, undef), (28, undef), (27, undef), (26, undef), (25, .bool true), (24, .bool true), (23, undef), (22, undef), (21, undef), (20, undef), (19, undef), (18, .bool true), (17, .bool true), (16, undef), (15, undef), (14, undef), (13, undef), (12, undef)] ?_; clear HF; intro a HF
  refine from_done rfl ?_
  replace HF := HF.to [(40, .bool true), (4, .bool false), (3, vP g3 0), (2, vP g2 0)]
  refine cond_true HF rfl (wp_seq (from_start ?_))
  refine fp HF 1 0 [(4, .bool false)] ?_; clear HF; intro a HF
  refine from_done rfl ?_
  refine wp_ret ?_
  exact ret1 rfl HF (.tmp HF rfl) (⟨by rw [decide_eq_false (same_not (by omega))], HM.below⟩)
 ·have HF := HF.on 11 hb11
  have hd11 := bne_eq_false_iff_eq.1 hb11
  refine fp HF 1 6 [(12, vP g2 1)] ?_; clear HF; intro a HF
  refine fy HF HM 7 rfl rfl rfl (v := vB b.cpu) (Yl.load1 rfl rfl (by kernel_rfl) (fun _ h => h.cell (i := 1) rfl (rfl))) ?_; clear HF; intro a HF
  refine fp HF 1 8 [(14, vP g3 1)] ?_; clear HF; intro a HF
  refine fy HF HM 9 rfl rfl rfl (v := vB d.cpu) (Yl.load1 rfl rfl (by kernel_rfl) (fun _ h => h.cell (i := 0) rfl (rfl))) ?_; clear HF; intro a HF
  refine fp HF 3 10 [(18, .bool ((b.cpu : Int) != (d.cpu : Int))), (17, .bool ((b.cpu : Int) != (d.cpu : Int))), (16, .bool ((b.cpu : Int) != (d.cpu : Int)))] ?_; clear HF; intro a HF
  rcases Bool.eq_false_or_eq_true ((b.cpu : Int) != (d.cpu : Int)) with hb18 | hb18
  ·have HF := HF.on 18 hb18
   have hd18 := bne_iff_ne.1 hb18
   refine fp HF 22 13 [(40, .bool true), (39, undef), (38, undef), (37, undef), (36, undef), (35, undef), (34, undef), (33, undef), (32, .bool true), (31, .bool true), (30, undef), (29, undef), (28, undef), (27, undef), (26, undef), (25, .bool true), (24, .bool true), (23, undef), (22, undef), (21, undef), (20, undef), (19, undef)] ?_; clear HF; intro a HF
   refine from_done rfl ?_
   replace HF := HF.to [(40, .bool true), (4, .bool false), (3, vP g3 0), (2, vP g2 0)]
   refine cond_true HF rfl (wp_seq (from_start ?_))
   refine fp HF 1 0 [(4, .bool false)] ?_; clear HF; intro a HF
   refine from_done rfl ?_
   refine wp_ret ?_
   exact ret1 rfl HF (.tmp HF rfl) (⟨by rw [decide_eq_false (same_not (by omega))], HM.below⟩)
  ·have HF := HF.on 18 hb18
   have hd18 := bne_eq_false_iff_eq.1 hb18
   refine fp HF 1 13 [(19, vP g2 2)] ?_; clear HF; intro a HF
   refine fy HF HM 14 rfl rfl rfl (v := vI b.lost) (Yl.load1 rfl rfl (by kernel_rfl) (fun _ h => h.cell (i := 1) rfl (rfl))) ?_; clear HF; intro a HF
   refine fp HF 1 15 [(21, vP g3 2)] ?_; clear HF; intro a HF
   refine fy HF HM 16 rfl rfl rfl (v := vI d.lost) (Yl.load1 rfl rfl (by kernel_rfl) (fun _ h => h.cell (i := 0) rfl (rfl))) ?_; clear HF; intro a HF
   refine fp HF 3 17 [(25, .bool ((b.lost : Int) != (d.lost : Int))), (24, .bool ((b.lost : Int) != (d.lost : Int))), (23, .bool ((b.lost : Int) != (d.lost : Int)))] ?_; clear HF; intro a HF
   rcases Bool.eq_false_or_eq_true ((b.lost : Int) != (d.lost : Int)) with hb25 | hb25
   ·have HF := HF.on 25 hb25
    have hd25 := bne_iff_ne.1 hb25
    refine fp HF 15 20 [(40, .bool true), (39, undef), (38, undef), (37, undef), (36, undef), (35, undef), (34, undef), (33, undef), (32, .bool true), (31, .bool true), (30, undef), (29, undef), (28, undef), (27, undef), (26, undef)] ?_; clear HF; intro a HF
    refine from_done rfl ?_
    replace HF := HF.to [(40, .bool true), (4, .bool false), (3, vP g3 0), (2, vP g2 0)]
    refine cond_true HF rfl (wp_seq (from_start ?_))
    refine fp HF 1 0 [(4, .bool false)] ?_; clear HF; intro a HF
    refine from_done rfl ?_
    refine wp_ret ?_
    exact ret1 rfl HF (.tmp HF rfl) (⟨by rw [decide_eq_false (same_not (by omega))], HM.below⟩)
   ·have HF := HF.on 25 hb25
    have hd25 := bne_eq_false_iff_eq.1 hb25
    refine fp HF 1 20 [(26, vP g2 3)] ?_; clear HF; intro a HF
    refine fy HF HM 21 rfl rfl rfl (v := vI b.next) (Yl.load1 rfl rfl (by kernel_rfl) (fun _ h => h.cell (i := 1) rfl (rfl))) ?_; clear HF; intro a HF
    refine fp HF 1 22 [(28, vP g3 3)] ?_; clear HF; intro a HF
    refine fy HF HM 23 rfl rfl rfl (v := vI d.next) (Yl.load1 rfl rfl (by kernel_rfl) (fun _ h => h.cell (i := 0) rfl (rfl))) ?_; clear HF; intro a HF
    refine fp HF 3 24 [(32, .bool ((b.next : Int) != (d.next : Int))), (31, .bool ((b.next : Int) != (d.next : Int))), (30, .bool ((b.next : Int) != (d.next : Int)))] ?_; clear HF; intro a HF
    rcases Bool.eq_false_or_eq_true ((b.next : Int) != (d.next : Int)) with hb32 | hb32
    ·have HF := HF.on 32 hb32
     have hd32 := bne_iff_ne.1 hb32
     refine fp HF 8 27 [(40, .bool true), (39, undef), (38, undef), (37, undef), (36, undef), (35, undef), (34, undef), (33, undef)] ?_; clear HF; intro a HF
     refine from_done rfl ?_
     replace HF := HF.to [(40, .bool true), (4, .bool false), (3, vP g3 0), (2, vP g2 0)]
     refine cond_true HF rfl (wp_seq (from_start ?_))
     refine fp HF 1 0 [(4, .bool false)] ?_; clear HF; intro a HF
     refine from_done rfl ?_
     refine wp_ret ?_
     exact ret1 rfl HF (.tmp HF rfl) (⟨by rw [decide_eq_false (same_not (by omega))], HM.below⟩)
    ·have HF := HF.on 32 hb32
     have hd32 := bne_eq_false_iff_eq.1 hb32
     refine fp HF 1 27 [(33, vP g2 4)] ?_; clear HF; intro a HF
     refine fy HF HM 28 rfl rfl rfl (v := .slice A b.evs.length c) (Yl.load1 rfl rfl (by kernel_rfl) (fun _ h => h.cell (i := 1) rfl (rfl))) ?_; clear HF; intro a HF
     refine fy HF HM 29 rfl rfl rfl (Yl.len rfl rfl (by kernel_rfl)) ?_; clear HF; intro a HF
     refine fp HF 1 30 [(36, vP g3 4)] ?_; clear HF; intro a HF
     refine fy HF HM 31 rfl rfl rfl (v := .slice A2 d.evs.length c2) (Yl.load1 rfl rfl (by kernel_rfl) (fun _ h => h.cell (i := 0) rfl (rfl))) ?_; clear HF; intro a HF
     refine fy HF HM 32 rfl rfl rfl (Yl.len rfl rfl (by kernel_rfl)) ?_; clear HF; intro a HF
     refine fp HF 2 33 [(40, .bool ((b.evs.length : Int) != (d.evs.length : Int))), (39, .bool ((b.evs.length : Int) != (d.evs.length : Int)))] ?_; clear HF; intro a HF
     refine from_done rfl ?_
     replace HF := HF.to [(40, .bool ((b.evs.length : Int) != (d.evs.length : Int))), (4, .bool false), (3, vP g3 0), (2, vP g2 0)]
     rcases Bool.eq_false_or_eq_true ((b.evs.length : Int) != (d.evs.length : Int)) with hb40 | hb40
     ·have HF := HF.on 40 hb40
      have hd40 := bne_iff_ne.1 hb40
      refine cond_true HF rfl (wp_seq (from_start ?_))
      refine fp HF 1 0 [(4, .bool false)] ?_; clear HF; intro a HF
      refine from_done rfl ?_
      refine wp_ret ?_
      exact ret1 rfl HF (.tmp HF rfl) (⟨by rw [decide_eq_false (same_not (by omega))], HM.below⟩)
     ·have HF := HF.on 40 hb40
      have hd40 := bne_eq_false_iff_eq.1 hb40
      refine cond_false HF rfl (wp_skip (wp_seq (wp_seq (from_start ?_))))
      refine fp HF 1 0 [(5, vI 0)] ?_; clear HF; intro a HF
      refine from_done rfl ?_
      refine wp_block ?_
      refine loop_nat (fun mS aS wS => ∃ (k : Nat), (k ≤ b.evs.length) ∧ (∀ i, i < k → b.evs.getD i Ev.zero = d.evs.getD i Ev.zero) ∧ mS = b.evs.length - k ∧ Fr aS 59 [] [(5, vI k), (40, .bool false), (4, .bool false), (3, vP g3 0), (2, vP g2 0)] ∧ Mem w wS [.blk g3 (d.cells A2 c2) 39, .blk g2 (b.cells A c) 39]) (m := b.evs.length - 0) ⟨0, Nat.zero_le _, fun i hi => absurd hi (Nat.not_lt_zero _), rfl, HF.sub (by kernel_rfl), HM.picks [0, 1] (by decide) rfl⟩ ?_
      clear HF HM; rintro mS a w_ ⟨k, hk, hall, rfl, HF, HM⟩
      refine wp_seq (wp_seq (from_start ?_))
      refine fp HF 2 0 [(42, vP g2 4), (41, vI k)] ?_; clear HF; intro a HF
      refine fy HF HM 2 rfl rfl rfl (v := .slice A b.evs.length c) (Yl.load1 rfl rfl (by kernel_rfl) (fun _ h => h.cell (i := 1) rfl (rfl))) ?_; clear HF; intro a HF
      refine fy HF HM 3 rfl rfl rfl (Yl.len rfl rfl (by kernel_rfl)) ?_; clear HF; intro a HF
      refine fp HF 1 4 [(45, .bool (decide ((k : Int) < (b.evs.length : Int))))] ?_; clear HF; intro a HF
      refine from_done rfl ?_
      rcases Bool.eq_false_or_eq_true (decide ((k : Int) < (b.evs.length : Int))) with hb45 | hb45
      ·have HF := HF.on 45 hb45
       have hd45 := of_decide_eq_true hb45
       have hk45 : k < b.evs.length := by omega
       refine cond_true HF rfl (wp_skip (wp_seq (wp_block (wp_seq ?_))))
       refine any_start (by kernel_rfl) (fun wS => Mem w wS [.blk g3 (d.cells A2 c2) 39, .blk g2 (b.cells A c) 39]) [] ?_
       replace HM := HM.drew
       have HS := HM.picks (fs' := [.blk g3 (d.cells A2 c2) 39, .blk g2 (b.cells A c) 39]) [0, 1] (by decide) rfl
       refine ap HF (fun _ => HS) [0, 2, 5, 7] #[true, false, true, false, false, true, false, true, false, false, false] [(55, vI k), (53, vP g3 4), (50, vI k), (48, vP g2 4)] ?_; clear HF; intro a HF
       refine ay HF HS 1 rfl rfl rfl (v := .slice A b.evs.length c) (Yl.load1 rfl rfl (by kernel_rfl) (fun _ h => h.cell (i := 1) rfl (rfl))) ?_; clear HF; intro a HF
       obtain ⟨gA, oA, rfl, _⟩ := hr.some_at (Nat.lt_of_le_of_lt (Nat.zero_le _) (show k < b.evs.length from by omega)) (by decide)
       refine ay HF HS 3 rfl rfl rfl (v := vP gA (oA + k * 11)) ((Yl.indexAddr (ad := ⟨gA, oA, none⟩) (y := k) (sz := 11) rfl rfl rfl (by omega) (by kernel_rfl)).as (by rw [Addr.add_mid])) ?_; clear HF; intro a HF
       refine ay HF HS 4 rfl rfl rfl (v := .agg ((b.evs.getD k Ev.zero).cells)) (Yl.loadS rfl rfl ⟨(by kernel_rfl), (by kernel_rfl)⟩ rfl (fun _ h => (h.old hr).structAt evL_len ((getD_at Ev.zero (k := k) (by first | omega | (simp; omega)))))) ?_; clear HF; intro a HF
       refine ay HF HS 6 rfl rfl rfl (v := .slice A2 d.evs.length c2) (Yl.load1 rfl rfl (by kernel_rfl) (fun _ h => h.cell (i := 0) rfl (rfl))) ?_; clear HF; intro a HF
       obtain ⟨gA2, oA2, rfl, _⟩ := hr2.some_at (Nat.lt_of_le_of_lt (Nat.zero_le _) (show k < d.evs.length from by omega)) (by decide)
       refine ay HF HS 8 rfl rfl rfl (v := vP gA2 (oA2 + k * 11)) ((Yl.indexAddr (ad := ⟨gA2, oA2, none⟩) (y := k) (sz := 11) rfl rfl rfl (by omega) (by kernel_rfl)).as (by rw [Addr.add_mid])) ?_; clear HF; intro a HF
       refine ay HF HS 9 rfl rfl rfl (v := .agg ((d.evs.getD k Ev.zero).cells)) (Yl.loadS rfl rfl ⟨(by kernel_rfl), (by kernel_rfl)⟩ rfl (fun _ h => (h.old hr2).structAt evL_len ((getD_at Ev.zero (k := k) (by first | omega | (simp; omega)))))) ?_; clear HF; intro a HF
       refine ay HF HS 10 rfl rfl rfl (v := .bool (!(decide ((b.evs.getD k Ev.zero) = (d.evs.getD k Ev.zero))))) (Yl.neqEv (x := (b.evs.getD k Ev.zero)) (y := (d.evs.getD k Ev.zero)) rfl rfl rfl (by kernel_rfl)) ?_; clear HF; intro a HF
       refine any_done (by kernel_rfl) ?_
       rcases Bool.eq_false_or_eq_true (!(decide ((b.evs.getD k Ev.zero) = (d.evs.getD k Ev.zero)))) with hb58 | hb58
       ·have HF := HF.on 58 hb58
        refine cond_true HF rfl (wp_seq (from_start ?_))
        refine fp HF 1 0 [(4, .bool false)] ?_; clear HF; intro a HF
        refine from_done rfl ?_
        replace HF := HF.to [(4, .bool false), (58, .bool true), (45, .bool true), (5, vI k), (40, .bool false), (3, vP g3 0), (2, vP g2 0)]
        refine wp_ret ?_
        exact ret1 rfl HF (.tmp HF rfl) (⟨by rw [decide_eq_false (fun h => by rw [h] at hb58; simp at hb58)], HM.below⟩)
       ·have HF := HF.on 58 hb58
        refine cond_false HF rfl (wp_skip (from_start ?_))
        refine fp HF 2 0 [(47, vI (IntKind.i64.wrap ((k : Int) + 1))), (46, vI k)] ?_; clear HF; intro a HF
        replace HF := HF.as (t := 47) (u := vI (k + 1 : Nat)) rfl (i64_nat (by omega) (by omega))
        refine fp HF 1 2 [(5, vI (k + 1 : Nat))] ?_; clear HF; intro a HF
        refine from_done rfl ?_
        replace HF := HF.to [(5, vI (k + 1 : Nat)), (58, .bool false), (45, .bool true), (40, .bool false), (4, .bool false), (3, vP g3 0), (2, vP g2 0)]
        exact ⟨_, (by omega), k + 1, by omega, fun i hi => (Nat.lt_succ_iff_lt_or_eq.1 hi).elim (hall i) (fun h => by subst h; simpa using hb58), rfl, HF.sub (by kernel_rfl), HM.picks [0, 1] (by decide) rfl⟩
      ·have HF := HF.on 45 hb45
       have hd45 := of_decide_eq_false hb45
       refine cond_false HF rfl (wp_exit (wp_seq (from_start ?_)))
       refine fp HF 1 0 [(4, .bool true)] ?_; clear HF; intro a HF
       refine from_done rfl ?_
       refine wp_ret ?_
       exact ret1 rfl HF (.tmp HF rfl) (⟨by rw [decide_eq_true (same_all (by omega) (by omega) (by omega) (by omega) (by omega) (fun i hi => hall i (by omega)))], HM.below⟩)
end Go.Proofs.YtnakabnmjnfpcaaDoor

set_option linter.all false
namespace Go.Proofs.YtnakabnmjnfpcaaDoor
open Go.RowKit
set_option maxRecDepth 100000 in
set_option maxHeartbeats 4000000 in
theorem nums10_any (A : Option Addr) (c m : Nat) (l : List Nat) (w : World) (hr : Rd w w.heap.size 1 A l.length (l.map B8)) (hc : l.length ≤ c) (hn : l.length ≤ 100000000) (hm : m ≤ 1000000) (hl : ∀ b ∈ l, b < 256) :
    Calls Tryd.prog 47 #[.slice A l.length c, .int .i64 (m : Int)] w (NumsIs w A l (numsR m l)) := by
 refine calls_enter (vs := [.slice A l.length c, vI m]) Tryd.func47 rfl rfl (by kernel_rfl) (σ0 := [(0, .slice A l.length c), (1, vI m)]) rfl ?_
 intro a HF
 have HM := Mem.start w
 refine wp_seq (from_start ?_)
 refine fp HF 2 0 [(5, .slice none 0 0), (4, .slice none 0 0)] ?_; clear HF; intro a HF
 refine from_done rfl ?_
 refine wp_seq (from_start ?_)
 refine fp HF 1 0 [(6, .slice none 0 0)] ?_; clear HF; intro a HF
 refine from_done rfl ?_
 replace HM := HM.nil 44 1
 refine wp_seq (wp_block ?_)
 refine loop_nat (fun mS aS wS => ∃ (xs : List Nat) (Ak : Option Addr) (ck : Nat) (rl : List Nat) (X : Option Addr) (cX : Nat), (xs.length ≤ m) ∧ (xs.length ≤ ck) ∧ (numsR m l = (xs ++ (numsR (m - xs.length) rl).1, (numsR (m - xs.length) rl).2)) ∧ (∀ v : World, Rd v v.heap.size 1 A l.length (l.map B8) → Rd v v.heap.size 1 X rl.length (rl.map B8)) ∧ (∀ b ∈ rl, b < 256) ∧ (rl.length ≤ cX) ∧ (rl.length ≤ l.length) ∧ mS = m - xs.length ∧ Fr aS 33 [] [(6, .slice Ak xs.length ck), (5, .slice none 0 0), (4, .slice none 0 0), (0, .slice X rl.length cX), (1, vI m)] ∧ Mem w wS [.row (.slice Ak xs.length ck) xs.length (xs.map U64) 44 1]) (m := m - [].length) ⟨[], none, 0, l, A, c, Nat.zero_le _, Nat.le_refl _, by simp, fun _ h => h, hl, hc, Nat.le_refl _, rfl, HF.sub (by kernel_rfl), HM.picks [0] (by decide) rfl⟩ ?_
 clear HF HM; rintro mS a w_ ⟨xs, Ak, ck, rl, X, cX, hxm, hck, hj, hrl, hll, hcX, hlen, rfl, HF, HM⟩
 refine wp_seq (wp_seq (from_start ?_))
 refine fp HF 1 0 [(10, .slice Ak xs.length ck)] ?_; clear HF; intro a HF
 refine fy HF HM 1 rfl rfl rfl (Yl.len rfl rfl (by kernel_rfl)) ?_; clear HF; intro a HF
 refine fp HF 2 2 [(13, .bool (decide ((xs.length : Int) < (m : Int)))), (12, vI m)] ?_; clear HF; intro a HF
 refine from_done rfl ?_
 rcases Bool.eq_false_or_eq_true (decide ((xs.length : Int) < (m : Int))) with hb13 | hb13
 ·have HF := HF.on 13 hb13
  have hd13 := of_decide_eq_true hb13
  have hlt : xs.length < m := by omega
  refine cond_true HF rfl (wp_skip (wp_block (wp_seq (from_start ?_))))
  refine fp HF 1 0 [(15, .slice X rl.length cX)] ?_; clear HF; intro a HF
  refine from_op HF (i := 1) rfl rfl ?_
  refine e_call HF (vs := [.slice X rl.length cX]) rfl (by kernel_rfl) (by kernel_rfl) rfl (by decide) (read01_any X rl.length cX _ rl _ (HM.old (hrl w hr)) hll (by omega)) ?_
  rintro _ w16 ⟨rfl, rfl⟩
  refine ⟨_, rfl, ?_⟩
  replace HM := HM
  clear HF; intro a HF
  refine fp HF 7 2 [(9, vI ((vread rl).2.2)), (8, vI ((vread rl).2.1)), (7, vQ ((vread rl).1)), (19, vI ((vread rl).2.2)), (18, vI ((vread rl).2.1)), (17, vQ ((vread rl).1)), (14, .tuple #[vQ ((vread rl).1), vI ((vread rl).2.1), vI ((vread rl).2.2)])] ?_; clear HF; intro a HF
  refine from_done rfl ?_
  refine wp_seq (wp_seq (from_start ?_))
  refine fp HF 2 0 [(21, .bool (((vread rl).2.2 : Int) != (0 : Int))), (20, vI ((vread rl).2.2))] ?_; clear HF; intro a HF
  refine from_done rfl ?_
  rcases Bool.eq_false_or_eq_true (((vread rl).2.2 : Int) != (0 : Int)) with hb21 | hb21
  ·have HF := HF.on 21 hb21
   have hd21 := bne_iff_ne.1 hb21
   have hb0 : (vread rl).2.2 ≠ 0 := by omega
   refine cond_true HF rfl (wp_seq (from_start ?_))
   refine fp HF 4 0 [(5, .slice X rl.length cX), (4, .slice Ak xs.length ck), (23, .slice X rl.length cX), (22, .slice Ak xs.length ck)] ?_; clear HF; intro a HF
   refine from_done rfl ?_
   refine wp_ret ?_
   exact ret2 rfl HF (.tmp HF rfl) (.tmp HF rfl) (numsIs_of (nums_bad hj hlt hb0) (HM.own (i := 0) rfl) hck hrl hcX HM.below)
  ·have HF := HF.on 21 hb21
   have hd21 := bne_eq_false_iff_eq.1 hb21
   have hb0 : (vread rl).2.2 = 0 := by omega
   have hvl := vread_len rl
   have htl := tkRest_len rl
   refine cond_false HF rfl (wp_skip (wp_seq (from_start ?_)))
   refine fp HF 2 0 [(25, vQ ((vread rl).1)), (24, .slice Ak xs.length ck)] ?_; clear HF; intro a HF
   refine from_op HF (i := 2) rfl rfl ?_
   refine e_slice HF HM (vs := [(0, vQ ((vread rl).1))]) (cs := #[vQ ((vread rl).1)]) rfl ei_u64 (by decide) rfl (by kernel_rfl) rfl (by decide) ?_
   clear HF HM; intro a w26 g26 HF HM
   refine from_op HF (i := 3) rfl rfl ?_
   refine e_append HF HM (i := 1) rfl ei_u64 rfl rfl rfl (news := [U64 (vread rl).1]) (HM.rdBlk (i := 0) (n := 1) (size := 1) rfl rfl) (by simp [Value.oneCell', U64, B8]) (by omega) (by omega) rfl (by decide) ?_
   clear HF HM; intro a w27 A27 c27 HF HM hc27
   refine fp HF 1 4 [(6, .slice A27 (xs.length + 1) c27)] ?_; clear HF; intro a HF
   refine from_done rfl ?_
   replace HF := HF.to [(6, .slice A27 (xs.length + 1) c27), (21, .bool false), (9, vI ((vread rl).2.2)), (8, vI ((vread rl).2.1)), (7, vQ ((vread rl).1)), (13, .bool true), (5, .slice none 0 0), (4, .slice none 0 0), (0, .slice X rl.length cX), (1, vI m)]
   replace HM := HM.picks (fs' := [.row (.slice A27 (xs.length + 1) c27) (xs.length + 1) ((xs.map U64) ++ [U64 (vread rl).1]) 44 1]) [1] (by decide) rfl
   have hnA27 : xs.length + 1 = (xs ++ [(vread rl).1]).length := by simp
   replace HM := HM.reRow (i := 0) (ys := (xs ++ [(vread rl).1]).map U64) rfl hnA27 (by simp)
   rw [hnA27] at hc27
   replace HF := HF.as (t := 6) (u := .slice A27 ((xs ++ [(vread rl).1]).length) c27) rfl (by rw [hnA27])
   refine from_start ?_
   refine fp HF 2 0 [(29, vI ((vread rl).2.1)), (28, .slice X rl.length cX)] ?_; clear HF; intro a HF
   refine fy HF HM 2 rfl rfl rfl (v := .slice (if cX = (vread rl).2.1 then X else X.map (·.add ((vread rl).2.1 * 1))) (rl.length - (vread rl).2.1) (cX - (vread rl).2.1)) (Yl.sliceFrom ei_u8 (j := (vread rl).2.1) rfl rfl rfl (by have := vread_len rl; omega)) ?_; clear HF; intro a HF
   replace HF := HF.as (t := 30) (u := .slice (if cX = (vread rl).2.1 then X else X.map (·.add ((vread rl).2.1 * 1))) ((tkRest rl).length) (cX - (vread rl).2.1)) rfl (by rw [tkRest_len])
   refine fp HF 1 3 [(0, .slice (if cX = (vread rl).2.1 then X else X.map (·.add ((vread rl).2.1 * 1))) ((tkRest rl).length) (cX - (vread rl).2.1))] ?_; clear HF; intro a HF
   refine from_done rfl ?_
   exact ⟨_, (by simp; omega), (xs ++ [(vread rl).1]), A27, c27, (tkRest rl), (if cX = (vread rl).2.1 then X else X.map (·.add ((vread rl).2.1 * 1))), (cX - (vread rl).2.1), by simp; omega, hc27, nums_next hj hlt hb0, fun v h => rd_rest (hrl v h) hcX, tk_rest_lt hll, by omega, by omega, rfl, HF.sub (by kernel_rfl), HM.picks [0] (by decide) rfl⟩
 ·have HF := HF.on 13 hb13
  have hd13 := of_decide_eq_false hb13
  refine cond_false HF rfl (wp_exit (wp_seq (from_start ?_)))
  refine fp HF 4 0 [(5, .slice X rl.length cX), (4, .slice Ak xs.length ck), (32, .slice X rl.length cX), (31, .slice Ak xs.length ck)] ?_; clear HF; intro a HF
  refine from_done rfl ?_
  refine wp_ret ?_
  exact ret2 rfl HF (.tmp HF rfl) (.tmp HF rfl) (numsIs_of (nums_stop hj (by omega)) (HM.own (i := 0) rfl) hck hrl hcX HM.below)
set_option maxRecDepth 100000 in
set_option maxHeartbeats 4000000 in
theorem parse10_any (A : Option Addr) (n cp : Nat) (Lb L : List Nat) (hL : L = (Lb.take (Lb.length - 4)).drop 8) (w : World) (hr : Rd w w.heap.size 1 A n (Lb.map B8)) (hc : n ≤ cp) (hln : Lb.length = n) (hn : n ≤ 100000000) (h13 : 13 ≤ n) (hl : ∀ b ∈ Lb, b < 256) :
    Calls Tryd.prog 29 #[.slice A n cp] w (RBlkIs w (loose (Lb.getD 7 0) L)) := by
 refine calls_enter (vs := [.slice A n cp]) Tryd.func29 rfl rfl (by kernel_rfl) (σ0 := [(0, .slice A n cp)]) rfl ?_
 intro a HF
 have HM := Mem.start w
 refine wp_seq (from_start ?_)
 refine from_op HF (i := 0) rfl rfl ?_
 refine e_alloc HF HM (cs := #[vB 0, vB 0, vI 0, vI 0, .slice none 0 0]) rfl (by kernel_rfl) rfl (by decide) ?_
 clear HF HM; intro a w2 g2 HF HM
 refine from_done rfl ?_
 have hL8 : L.length = n - 4 - 8 := by rw [hL, List.length_drop, List.length_take]; omega
 have hrL : Rd w w.heap.size 1 (if cp = 8 then A else A.map (·.add (8 * 1))) L.length (L.map B8) := by rw [hL8, hL]; have h := hr.midB8 (c := cp) (i := 8) (j := n - 4) (by omega) (by omega) (by omega); rw [hln]; exact h
 have hlL : ∀ b ∈ L, b < 256 := by rw [hL]; exact drop_lt (take_lt hl _) _
 obtain ⟨gA, oA, rfl, _⟩ := hr.some_at (Nat.lt_of_le_of_lt (Nat.zero_le _) (show 0 < n from by omega)) (by decide)
 refine wp_seq (from_start ?_)
 refine fp HF 1 0 [(10, .slice (some ⟨gA, oA, none⟩) n cp)] ?_; clear HF; intro a HF
 refine fy HF HM 1 rfl rfl rfl (v := vP gA (oA + 7)) (Yl.indexAddr (ad := ⟨gA, oA, none⟩) (y := 7) (sz := 1) rfl rfl rfl (by omega) (by kernel_rfl)) ?_; clear HF; intro a HF
 refine fy HF HM 2 rfl rfl rfl (v := vB (Lb.getD 7 0)) (Yl.load1 rfl rfl (by kernel_rfl) (fun _ h => (h.old hr).oneAt1 (k := 7) (map_at (F := B8) (k := 7) (x := (Lb.getD 7 0)) ((getD_at 0 (k := 7) (by first | omega | (simp; omega))))))) ?_; clear HF; intro a HF
 refine fy HF HM 3 rfl rfl rfl (v := .agg #[vB (Lb.getD 7 0), vB 0, vI 0, vI 0, .slice none 0 0]) (Yl.build (vs := [(0, vB (Lb.getD 7 0))]) rfl (by kernel_rfl) (by kernel_rfl)) ?_; clear HF; intro a HF
 refine from_op HF (i := 4) rfl rfl ?_
 refine e_alloc HF HM (cs := #[vB 0, vB 0, vI 0, vI 0, .slice none 0 0]) rfl (by kernel_rfl) rfl (by decide) ?_
 clear HF HM; intro a w3 g3 HF HM
 refine from_op HF (i := 5) rfl rfl ?_
 refine e_storeAll HF HM (i := 0) (cs := #[vB 0, vB 0, vI 0, vI 0, .slice none 0 0]) (ds := #[vB (Lb.getD 7 0), vB 0, vI 0, vI 0, .slice none 0 0]) rfl rfl rfl rfl si_rbk rfl rfl (by simp [Value.oneCell']) rfl ?_
 clear HM; intro w1_5 HM
 refine from_done rfl ?_
 refine wp_seq (from_start ?_)
 refine fp HF 2 0 [(15, .slice (some ⟨gA, oA, none⟩) n cp), (14, .slice (some ⟨gA, oA, none⟩) n cp)] ?_; clear HF; intro a HF
 refine fy HF HM 2 rfl rfl rfl (Yl.len rfl rfl (by kernel_rfl)) ?_; clear HF; intro a HF
 refine fp HF 1 3 [(17, vI (IntKind.i64.wrap ((n : Int) - 4)))] ?_; clear HF; intro a HF
 replace HF := HF.as (t := 17) (u := vI (n - 4 : Nat)) rfl (i64_nat (by omega) (by omega))
 refine fy HF HM 4 rfl rfl rfl (v := .slice (if cp = 8 then some ⟨gA, oA, none⟩ else (some ⟨gA, oA, none⟩ : Option Addr).map (·.add (8 * 1))) ((n - 4) - 8) (cp - 8)) (Yl.slice2 ei_u8 (i := 8) (j := (n - 4)) rfl rfl rfl rfl (by omega) (by omega)) ?_; clear HF; intro a HF
 replace HF := HF.as (t := 18) (u := .slice (if cp = 8 then some ⟨gA, oA, none⟩ else (some ⟨gA, oA, none⟩ : Option Addr).map (·.add (8 * 1))) L.length (cp - 8)) rfl (by rw [hL8])
 refine fp HF 1 5 [(4, .slice (if cp = 8 then some ⟨gA, oA, none⟩ else (some ⟨gA, oA, none⟩ : Option Addr).map (·.add (8 * 1))) L.length (cp - 8))] ?_; clear HF; intro a HF
 refine from_done rfl ?_
 refine wp_seq (wp_seq (from_start ?_))
 refine fp HF 1 0 [(19, vP g3 0)] ?_; clear HF; intro a HF
 refine fy HF HM 1 rfl rfl rfl (Yl.load1 rfl rfl (by kernel_rfl) (fun _ h => h.cell (i := 0) rfl rfl)) ?_; clear HF; intro a HF
 refine fp HF 1 2 [(21, .bool (((Lb.getD 7 0) : Int) == (2 : Int)))] ?_; clear HF; intro a HF
 refine from_done rfl ?_
 rcases Bool.eq_false_or_eq_true (((Lb.getD 7 0) : Int) == (2 : Int)) with hb21 | hb21
 ·have HF := HF.on 21 hb21
  have hd21 := eq_of_beq hb21
  have hk2 : (Lb.getD 7 0) = 2 := by omega
  refine cond_true HF rfl (wp_seq (from_start ?_))
  refine fp HF 1 0 [(23, .slice (if cp = 8 then some ⟨gA, oA, none⟩ else (some ⟨gA, oA, none⟩ : Option Addr).map (·.add (8 * 1))) L.length (cp - 8))] ?_; clear HF; intro a HF
  refine from_op HF (i := 1) rfl rfl ?_
  refine e_call HF (vs := [.slice (if cp = 8 then some ⟨gA, oA, none⟩ else (some ⟨gA, oA, none⟩ : Option Addr).map (·.add (8 * 1))) L.length (cp - 8), vI 1]) rfl (by kernel_rfl) (by kernel_rfl) rfl (by decide) (nums10_any (if cp = 8 then some ⟨gA, oA, none⟩ else (some ⟨gA, oA, none⟩ : Option Addr).map (·.add (8 * 1))) (cp - 8) 1 L _ (HM.old hrL) (by omega) (by have := numsR_len 3 L; omega) (by omega) hlL) ?_
  rintro _ w24 ⟨⟨A24, c24, X24, cX24, rfl, ho, hc24, hrX24, hcX24⟩, hbw⟩
  refine ⟨_, rfl, ?_⟩
  replace HM := HM.callRow hbw ho
  clear HF; intro a HF
  refine fp HF 5 2 [(6, .slice X24 ((numsR 1 L).2.length) cX24), (5, .slice A24 ((numsR 1 L).1.length) c24), (26, .slice X24 ((numsR 1 L).2.length) cX24), (25, .slice A24 ((numsR 1 L).1.length) c24), (22, .tuple #[.slice A24 ((numsR 1 L).1.length) c24, .slice X24 ((numsR 1 L).2.length) cX24])] ?_; clear HF; intro a HF
  refine from_done rfl ?_
  replace HF := HF.to [(5, .slice A24 ((numsR 1 L).1.length) c24), (21, .bool true), (4, .slice (if cp = 8 then some ⟨gA, oA, none⟩ else (some ⟨gA, oA, none⟩ : Option Addr).map (·.add (8 * 1))) L.length (cp - 8)), (3, vP g3 0), (2, vP g2 0), (0, .slice (some ⟨gA, oA, none⟩) n cp)]
  refine wp_seq (wp_seq (from_start ?_))
  refine fp HF 1 0 [(27, .slice A24 ((numsR 1 L).1.length) c24)] ?_; clear HF; intro a HF
  refine fy HF HM 1 rfl rfl rfl (Yl.len rfl rfl (by kernel_rfl)) ?_; clear HF; intro a HF
  refine fp HF 1 2 [(29, .bool ((((numsR 1 L).1.length : Nat) : Int) == (1 : Int)))] ?_; clear HF; intro a HF
  refine from_done rfl ?_
  rcases Bool.eq_false_or_eq_true ((((numsR 1 L).1.length : Nat) : Int) == (1 : Int)) with hb29 | hb29
  ·have HF := HF.on 29 hb29
   have hd29 := eq_of_beq hb29
   refine cond_true HF rfl (from_start ?_)
   refine fp HF 1 0 [(30, .slice A24 ((numsR 1 L).1.length) c24)] ?_; clear HF; intro a HF
   obtain ⟨gA24, rfl⟩ := own_some (HM.own (i := 0) rfl) (Nat.lt_of_le_of_lt (Nat.zero_le _) (show 0 < (numsR 1 L).1.length from by omega))
   refine fy HF HM 1 rfl rfl rfl (v := vP gA24 0) (Yl.indexAddr (ad := ⟨gA24, 0, none⟩) (y := 0) (sz := 1) rfl rfl rfl (by omega) (by kernel_rfl)) ?_; clear HF; intro a HF
   refine fy HF HM 2 rfl rfl rfl (v := vQ ((numsR 1 L).1.getD 0 0)) (Yl.load1 rfl rfl (by kernel_rfl) (fun _ h => h.rowOne (i := 0) rfl (k := 0) (map_at (F := U64) (k := 0) (x := ((numsR 1 L).1.getD 0 0)) ((getD_at 0 (k := 0) (by first | omega | (simp; omega))))))) ?_; clear HF; intro a HF
   refine fp HF 1 3 [(33, vI (IntKind.i64.wrap (((numsR 1 L).1.getD 0 0) : Int)))] ?_; clear HF; intro a HF
   replace HF := HF.as (t := 33) (u := vI (wrap64 ((numsR 1 L).1.getD 0 0 : Int))) rfl (by rw [IntWalk.i64_left])
   refine fp HF 1 4 [(34, vP g3 3)] ?_; clear HF; intro a HF
   refine from_op HF (i := 5) rfl rfl ?_
   refine e_store HF HM (i := 1) (cs := #[vB (Lb.getD 7 0), vB 0, vI 0, vI 0, .slice none 0 0]) rfl rfl rfl rfl (by kernel_rfl) rfl rfl (by simp) ?_
   clear HM; intro w6_5 HM
   refine from_done rfl ?_
   refine wp_seq (from_start ?_)
   refine fy HF HM 0 rfl rfl rfl (v := .agg #[vB (Lb.getD 7 0), vB 0, vI 0, vI (wrap64 ((numsR 1 L).1.getD 0 0 : Int)), .slice none 0 0]) (Yl.loadS rfl rfl si_rbk rfl (fun _ h => range_of_block (h.blk (i := 1) rfl))) ?_; clear HF; intro a HF
   refine from_op HF (i := 1) rfl rfl ?_
   refine e_storeAll HF HM (i := 2) (cs := #[vB 0, vB 0, vI 0, vI 0, .slice none 0 0]) (ds := #[vB (Lb.getD 7 0), vB 0, vI 0, vI (wrap64 ((numsR 1 L).1.getD 0 0 : Int)), .slice none 0 0]) rfl rfl rfl rfl si_rbk rfl rfl (by simp [Value.oneCell']) rfl ?_
   clear HM; intro w7_1 HM
   refine from_done rfl ?_
   refine wp_ret ?_
   exact ret1 rfl HF (.cellS (i := 2) HF HM rfl rfl si_rbk rfl) (rblk_nil (loose_end (k := (Lb.getD 7 0)) (l := L) hk2 (by rw [if_pos (by omega)])) HM.below)
  ·have HF := HF.on 29 hb29
   have hd29 := ne_of_beq_false hb29
   refine cond_false HF rfl (wp_skip (wp_seq (from_start ?_)))
   refine fy HF HM 0 rfl rfl rfl (v := .agg #[vB (Lb.getD 7 0), vB 0, vI 0, vI 0, .slice none 0 0]) (Yl.loadS rfl rfl si_rbk rfl (fun _ h => range_of_block (h.blk (i := 1) rfl))) ?_; clear HF; intro a HF
   refine from_op HF (i := 1) rfl rfl ?_
   refine e_storeAll HF HM (i := 2) (cs := #[vB 0, vB 0, vI 0, vI 0, .slice none 0 0]) (ds := #[vB (Lb.getD 7 0), vB 0, vI 0, vI 0, .slice none 0 0]) rfl rfl rfl rfl si_rbk rfl rfl (by simp [Value.oneCell']) rfl ?_
   clear HM; intro w7_1 HM
   refine from_done rfl ?_
   refine wp_ret ?_
   exact ret1 rfl HF (.cellS (i := 2) HF HM rfl rfl si_rbk rfl) (rblk_nil (loose_end (k := (Lb.getD 7 0)) (l := L) hk2 (by rw [if_neg (by omega)])) HM.below)
 ·have HF := HF.on 21 hb21
  have hd21 := ne_of_beq_false hb21
  have hk2 : (Lb.getD 7 0) ≠ 2 := by omega
  refine cond_false HF rfl (wp_skip (wp_seq (from_start ?_)))
  refine fp HF 1 0 [(37, .slice (if cp = 8 then some ⟨gA, oA, none⟩ else (some ⟨gA, oA, none⟩ : Option Addr).map (·.add (8 * 1))) L.length (cp - 8))] ?_; clear HF; intro a HF
  refine from_op HF (i := 1) rfl rfl ?_
  refine e_call HF (vs := [.slice (if cp = 8 then some ⟨gA, oA, none⟩ else (some ⟨gA, oA, none⟩ : Option Addr).map (·.add (8 * 1))) L.length (cp - 8), vI 3]) rfl (by kernel_rfl) (by kernel_rfl) rfl (by decide) (nums10_any (if cp = 8 then some ⟨gA, oA, none⟩ else (some ⟨gA, oA, none⟩ : Option Addr).map (·.add (8 * 1))) (cp - 8) 3 L _ (HM.old hrL) (by omega) (by have := numsR_len 3 L; omega) (by omega) hlL) ?_
  rintro _ w38 ⟨⟨A38, c38, X38, cX38, rfl, ho, hc38, hrX38, hcX38⟩, hbw⟩
  refine ⟨_, rfl, ?_⟩
  replace HM := HM.callRow hbw ho
  clear HF; intro a HF
  refine fp HF 5 2 [(8, .slice X38 ((numsR 3 L).2.length) cX38), (7, .slice A38 ((numsR 3 L).1.length) c38), (40, .slice X38 ((numsR 3 L).2.length) cX38), (39, .slice A38 ((numsR 3 L).1.length) c38), (36, .tuple #[.slice A38 ((numsR 3 L).1.length) c38, .slice X38 ((numsR 3 L).2.length) cX38])] ?_; clear HF; intro a HF
  refine from_done rfl ?_
  replace HF := HF.to [(8, .slice X38 ((numsR 3 L).2.length) cX38), (7, .slice A38 ((numsR 3 L).1.length) c38), (21, .bool false), (4, .slice (if cp = 8 then some ⟨gA, oA, none⟩ else (some ⟨gA, oA, none⟩ : Option Addr).map (·.add (8 * 1))) L.length (cp - 8)), (3, vP g3 0), (2, vP g2 0), (0, .slice (some ⟨gA, oA, none⟩) n cp)]
  refine wp_seq (wp_seq (from_start ?_))
  refine fp HF 1 0 [(41, .slice A38 ((numsR 3 L).1.length) c38)] ?_; clear HF; intro a HF
  refine fy HF HM 1 rfl rfl rfl (Yl.len rfl rfl (by kernel_rfl)) ?_; clear HF; intro a HF
  refine fp HF 1 2 [(43, .bool (decide ((((numsR 3 L).1.length : Nat) : Int) < (3 : Int))))] ?_; clear HF; intro a HF
  refine from_done rfl ?_
  rcases Bool.eq_false_or_eq_true (decide ((((numsR 3 L).1.length : Nat) : Int) < (3 : Int))) with hb43 | hb43
  ·have HF := HF.on 43 hb43
   have hd43 := of_decide_eq_true hb43
   refine cond_true HF rfl (wp_seq (from_start ?_))
   refine fy HF HM 0 rfl rfl rfl (v := .agg #[vB (Lb.getD 7 0), vB 0, vI 0, vI 0, .slice none 0 0]) (Yl.loadS rfl rfl si_rbk rfl (fun _ h => range_of_block (h.blk (i := 1) rfl))) ?_; clear HF; intro a HF
   refine from_op HF (i := 1) rfl rfl ?_
   refine e_storeAll HF HM (i := 2) (cs := #[vB 0, vB 0, vI 0, vI 0, .slice none 0 0]) (ds := #[vB (Lb.getD 7 0), vB 0, vI 0, vI 0, .slice none 0 0]) rfl rfl rfl rfl si_rbk rfl rfl (by simp [Value.oneCell']) rfl ?_
   clear HM; intro w10_1 HM
   refine from_done rfl ?_
   refine wp_ret ?_
   exact ret1 rfl HF (.cellS (i := 2) HF HM rfl rfl si_rbk rfl) (rblk_nil (loose_few hk2 (by omega)) HM.below)
  ·have HF := HF.on 43 hb43
   have hd43 := of_decide_eq_false hb43
   obtain ⟨gA38, rfl⟩ := own_some (HM.own (i := 0) rfl) (Nat.lt_of_le_of_lt (Nat.zero_le _) (show 0 < (numsR 3 L).1.length from by omega))
   refine cond_false HF rfl (wp_skip (wp_seq ?_))
   refine any_start (by kernel_rfl) (fun wS => Mem w wS [.row (vS gA38 ((numsR 3 L).1.length) c38) ((numsR 3 L).1.length) ((numsR 3 L).1.map U64) 44 1, .blk g2 #[vB 0, vB 0, vI 0, vI 0, .slice none 0 0] 39]) [11] ?_
   replace HM := HM.drew
   have HS := HM.picks (fs' := [.row (vS gA38 ((numsR 3 L).1.length) c38) ((numsR 3 L).1.length) ((numsR 3 L).1.map U64) 44 1, .blk g2 #[vB 0, vB 0, vI 0, vI 0, .slice none 0 0] 39]) [0, 2] (by decide) rfl
   refine ap HF (fun _ => HS) [0, 4] #[true, false, false, false, true, false, false, false, false, false, false, false] [(49, vS gA38 ((numsR 3 L).1.length) c38), (45, vS gA38 ((numsR 3 L).1.length) c38)] ?_; clear HF; intro a HF
   refine ay HF HS 1 rfl rfl rfl (v := vP gA38 0) (Yl.indexAddr (ad := ⟨gA38, 0, none⟩) (y := 0) (sz := 1) rfl rfl rfl (by omega) (by kernel_rfl)) ?_; clear HF; intro a HF
   refine ay HF HS 2 rfl rfl rfl (v := vQ ((numsR 3 L).1.getD 0 0)) (Yl.load1 rfl rfl (by kernel_rfl) (fun _ h => h.rowOne (i := 0) rfl (k := 0) (map_at (F := U64) (k := 0) (x := ((numsR 3 L).1.getD 0 0)) ((getD_at 0 (k := 0) (by first | omega | (simp; omega))))))) ?_; clear HF; intro a HF
   refine any_pure HF (fun _ => HS) (i := 3) rfl rfl (d := 48) rfl (by decide) (by kernel_rfl) (fun _ _ _ h => h) (v := vB (IntKind.u8.wrap (((numsR 3 L).1.getD 0 0) : Int))) (fun _ => Yl.pure (by kernel_rfl)) ?_; clear HF; intro a HF
   replace HF := HF.as (t := 48) (u := vB (((numsR 3 L).1.getD 0 0) % 256 : Nat)) rfl (u8_mod ((numsR 3 L).1.getD 0 0))
   refine ap HF (fun _ => HS) [8] #[true, true, true, true, true, false, false, false, true, false, false, false] [(53, vP g3 1)] ?_; clear HF; intro a HF
   refine ay HF HS 5 rfl rfl rfl (v := vP gA38 1) (Yl.indexAddr (ad := ⟨gA38, 0, none⟩) (y := 1) (sz := 1) rfl rfl rfl (by omega) (by kernel_rfl)) ?_; clear HF; intro a HF
   refine ay HF HS 6 rfl rfl rfl (v := vQ ((numsR 3 L).1.getD 1 0)) (Yl.load1 rfl rfl (by kernel_rfl) (fun _ h => h.rowOne (i := 0) rfl (k := 1) (map_at (F := U64) (k := 1) (x := ((numsR 3 L).1.getD 1 0)) ((getD_at 0 (k := 1) (by first | omega | (simp; omega))))))) ?_; clear HF; intro a HF
   refine any_pure HF (fun _ => HS) (i := 7) rfl rfl (d := 52) rfl (by decide) (by kernel_rfl) (fun _ _ _ h => h) (v := vI (IntKind.i64.wrap (((numsR 3 L).1.getD 1 0) : Int))) (fun _ => Yl.pure (by kernel_rfl)) ?_; clear HF; intro a HF
   replace HF := HF.as (t := 52) (u := vI (wrap64 ((numsR 3 L).1.getD 1 0 : Int))) rfl (by rw [IntWalk.i64_left])
   refine any_all [9] (by kernel_rfl) rfl ?_
   refine all_cons ?_ all_nil
   refine any_op HF (i := 9) rfl rfl ?_
   refine e_store HF HM (i := 1) (cs := #[vB (Lb.getD 7 0), vB 0, vI 0, vI 0, .slice none 0 0]) rfl rfl rfl rfl (by kernel_rfl) rfl rfl (by simp) ?_
   clear HM; intro w11_9 HM
   refine keepS (HM.picks [0, 2] (by decide) rfl) (fun HS => ?_)
   refine ap HF (fun _ => HS) [10] #[true, true, true, true, true, true, true, true, true, true, true, false] [(54, vP g3 2)] ?_; clear HF; intro a HF
   refine any_all [11] (by kernel_rfl) rfl ?_
   refine all_cons ?_ all_nil
   refine any_op HF (i := 11) rfl rfl ?_
   refine e_store HF HM (i := 1) (cs := #[vB (Lb.getD 7 0), vB (((numsR 3 L).1.getD 0 0) % 256 : Nat), vI 0, vI 0, .slice none 0 0]) rfl rfl rfl rfl (by kernel_rfl) rfl rfl (by simp) ?_
   clear HM; intro w11_11 HM
   refine noS (by kernel_rfl) ?_
   refine any_done (by kernel_rfl) ?_
   refine wp_seq (from_start ?_)
   refine fp HF 1 0 [(56, .slice X38 ((numsR 3 L).2.length) cX38)] ?_; clear HF; intro a HF
   refine from_op HF (i := 1) rfl rfl ?_
   refine e_call HF (vs := [.slice X38 ((numsR 3 L).2.length) cX38, vI 2]) rfl (by kernel_rfl) (by kernel_rfl) rfl (by decide) (nums10_any X38 cX38 2 (numsR 3 L).2 _ (HM.old (hrX38 w hrL)) (hcX38) (by have := numsR_len 3 L; omega) (by omega) (numsR_lt 3 L hlL)) ?_
   rintro _ w57 ⟨⟨A57, c57, X57, cX57, rfl, ho, hc57, hrX57, hcX57⟩, hbw⟩
   refine ⟨_, rfl, ?_⟩
   replace HM := HM.callRow hbw ho
   clear HF; intro a HF
   refine fp HF 5 2 [(8, .slice X57 ((numsR 2 (numsR 3 L).2).2.length) cX57), (9, .slice A57 ((numsR 2 (numsR 3 L).2).1.length) c57), (59, .slice X57 ((numsR 2 (numsR 3 L).2).2.length) cX57), (58, .slice A57 ((numsR 2 (numsR 3 L).2).1.length) c57), (55, .tuple #[.slice A57 ((numsR 2 (numsR 3 L).2).1.length) c57, .slice X57 ((numsR 2 (numsR 3 L).2).2.length) cX57])] ?_; clear HF; intro a HF
   refine from_done rfl ?_
   replace HF := HF.to [(8, .slice X57 ((numsR 2 (numsR 3 L).2).2.length) cX57), (9, .slice A57 ((numsR 2 (numsR 3 L).2).1.length) c57), (43, .bool false), (7, vS gA38 ((numsR 3 L).1.length) c38), (21, .bool false), (4, .slice (if cp = 8 then some ⟨gA, oA, none⟩ else (some ⟨gA, oA, none⟩ : Option Addr).map (·.add (8 * 1))) L.length (cp - 8)), (3, vP g3 0), (2, vP g2 0), (0, .slice (some ⟨gA, oA, none⟩) n cp)]
   refine wp_seq (wp_seq (from_start ?_))
   refine fp HF 1 0 [(60, vS gA38 ((numsR 3 L).1.length) c38)] ?_; clear HF; intro a HF
   refine fy HF HM 1 rfl rfl rfl (v := vP gA38 2) (Yl.indexAddr (ad := ⟨gA38, 0, none⟩) (y := 2) (sz := 1) rfl rfl rfl (by omega) (by kernel_rfl)) ?_; clear HF; intro a HF
   refine fy HF HM 2 rfl rfl rfl (v := vQ ((numsR 3 L).1.getD 2 0)) (Yl.load1 rfl rfl (by kernel_rfl) (fun _ h => h.rowOne (i := 1) rfl (k := 2) (map_at (F := U64) (k := 2) (x := ((numsR 3 L).1.getD 2 0)) ((getD_at 0 (k := 2) (by first | omega | (simp; omega))))))) ?_; clear HF; intro a HF
   refine fp HF 2 3 [(64, .bool (decide ((((numsR 3 L).1.getD 2 0) : Int) > (0 : Int)))), (63, .bool (decide ((((numsR 3 L).1.getD 2 0) : Int) > (0 : Int))))] ?_; clear HF; intro a HF
   rcases Bool.eq_false_or_eq_true (decide ((((numsR 3 L).1.getD 2 0) : Int) > (0 : Int))) with hb64 | hb64
   ·have HF := HF.on 64 hb64
    have hd64 := of_decide_eq_true hb64
    refine fp HF 1 5 [(65, vS gA38 ((numsR 3 L).1.length) c38)] ?_; clear HF; intro a HF
    refine fy HF HM 6 rfl rfl rfl (v := vP gA38 2) (Yl.indexAddr (ad := ⟨gA38, 0, none⟩) (y := 2) (sz := 1) rfl rfl rfl (by omega) (by kernel_rfl)) ?_; clear HF; intro a HF
    refine fy HF HM 7 rfl rfl rfl (v := vQ ((numsR 3 L).1.getD 2 0)) (Yl.load1 rfl rfl (by kernel_rfl) (fun _ h => h.rowOne (i := 1) rfl (k := 2) (map_at (F := U64) (k := 2) (x := ((numsR 3 L).1.getD 2 0)) ((getD_at 0 (k := 2) (by first | omega | (simp; omega))))))) ?_; clear HF; intro a HF
    refine fp HF 3 8 [(70, .bool (decide ((((numsR 3 L).1.getD 2 0) : Int) ≤ (4096 : Int)))), (69, .bool (decide ((((numsR 3 L).1.getD 2 0) : Int) ≤ (4096 : Int)))), (68, .bool (decide ((((numsR 3 L).1.getD 2 0) : Int) ≤ (4096 : Int))))] ?_; clear HF; intro a HF
    rcases Bool.eq_false_or_eq_true (decide ((((numsR 3 L).1.getD 2 0) : Int) ≤ (4096 : Int))) with hb70 | hb70
    ·have HF := HF.on 70 hb70
     have hd70 := of_decide_eq_true hb70
     refine fp HF 1 11 [(71, .slice A57 ((numsR 2 (numsR 3 L).2).1.length) c57)] ?_; clear HF; intro a HF
     refine fy HF HM 12 rfl rfl rfl (Yl.len rfl rfl (by kernel_rfl)) ?_; clear HF; intro a HF
     refine fp HF 2 13 [(74, .bool ((((numsR 2 (numsR 3 L).2).1.length : Nat) : Int) == (2 : Int))), (73, .bool ((((numsR 2 (numsR 3 L).2).1.length : Nat) : Int) == (2 : Int)))] ?_; clear HF; intro a HF
     refine from_done rfl ?_
     rcases Bool.eq_false_or_eq_true ((((numsR 2 (numsR 3 L).2).1.length : Nat) : Int) == (2 : Int)) with hb74 | hb74
     ·have HF := HF.on 74 hb74
      have hd74 := eq_of_beq hb74
      obtain ⟨gA57, rfl⟩ := own_some (HM.own (i := 0) rfl) (Nat.lt_of_le_of_lt (Nat.zero_le _) (show 0 < (numsR 2 (numsR 3 L).2).1.length from by omega))
      refine cond_true HF rfl ?_
      refine any_start (by kernel_rfl) (fun wS => Mem w wS [.row (vS gA57 ((numsR 2 (numsR 3 L).2).1.length) c57) ((numsR 2 (numsR 3 L).2).1.length) ((numsR 2 (numsR 3 L).2).1.map U64) 44 1, .row (vS gA38 ((numsR 3 L).1.length) c38) ((numsR 3 L).1.length) ((numsR 3 L).1.map U64) 44 1, .blk g3 #[vB (Lb.getD 7 0), vB (((numsR 3 L).1.getD 0 0) % 256 : Nat), vI (wrap64 ((numsR 3 L).1.getD 1 0 : Int)), vI 0, .slice none 0 0] 39, .blk g2 #[vB 0, vB 0, vI 0, vI 0, .slice none 0 0] 39]) [22] ?_
      replace HM := HM.drew
      have HS := HM.picks (fs' := [.row (vS gA57 ((numsR 2 (numsR 3 L).2).1.length) c57) ((numsR 2 (numsR 3 L).2).1.length) ((numsR 2 (numsR 3 L).2).1.map U64) 44 1, .row (vS gA38 ((numsR 3 L).1.length) c38) ((numsR 3 L).1.length) ((numsR 3 L).1.map U64) 44 1, .blk g3 #[vB (Lb.getD 7 0), vB (((numsR 3 L).1.getD 0 0) % 256 : Nat), vI (wrap64 ((numsR 3 L).1.getD 1 0 : Int)), vI 0, .slice none 0 0] 39, .blk g2 #[vB 0, vB 0, vI 0, vI 0, .slice none 0 0] 39]) [0, 1, 2, 3] (by decide) rfl
      refine ap HF (fun _ => HS) [0, 4, 9, 11, 15] #[true, false, false, false, true, false, false, false, false, true, false, true, false, false, false, true, false, false, false, false, false, false, false] [(91, .slice X57 ((numsR 2 (numsR 3 L).2).2.length) cX57), (87, vS gA38 ((numsR 3 L).1.length) c38), (85, vP g3 1), (80, vS gA57 ((numsR 2 (numsR 3 L).2).1.length) c57), (76, vS gA57 ((numsR 2 (numsR 3 L).2).1.length) c57)] ?_; clear HF; intro a HF
      refine ay HF HS 1 rfl rfl rfl (v := vP gA57 0) (Yl.indexAddr (ad := ⟨gA57, 0, none⟩) (y := 0) (sz := 1) rfl rfl rfl (by omega) (by kernel_rfl)) ?_; clear HF; intro a HF
      refine ay HF HS 2 rfl rfl rfl (v := vQ ((numsR 2 (numsR 3 L).2).1.getD 0 0)) (Yl.load1 rfl rfl (by kernel_rfl) (fun _ h => h.rowOne (i := 0) rfl (k := 0) (map_at (F := U64) (k := 0) (x := ((numsR 2 (numsR 3 L).2).1.getD 0 0)) ((getD_at 0 (k := 0) (by first | omega | (simp; omega))))))) ?_; clear HF; intro a HF
      refine any_pure HF (fun _ => HS) (i := 3) rfl rfl (d := 79) rfl (by decide) (by kernel_rfl) (fun _ _ _ h => h) (v := vI (IntKind.i64.wrap (((numsR 2 (numsR 3 L).2).1.getD 0 0) : Int))) (fun _ => Yl.pure (by kernel_rfl)) ?_; clear HF; intro a HF
      replace HF := HF.as (t := 79) (u := vI (wrap64 ((numsR 2 (numsR 3 L).2).1.getD 0 0 : Int))) rfl (by rw [IntWalk.i64_left])
      refine ay HF HS 5 rfl rfl rfl (v := vP gA57 1) (Yl.indexAddr (ad := ⟨gA57, 0, none⟩) (y := 1) (sz := 1) rfl rfl rfl (by omega) (by kernel_rfl)) ?_; clear HF; intro a HF
      refine ay HF HS 6 rfl rfl rfl (v := vQ ((numsR 2 (numsR 3 L).2).1.getD 1 0)) (Yl.load1 rfl rfl (by kernel_rfl) (fun _ h => h.rowOne (i := 0) rfl (k := 1) (map_at (F := U64) (k := 1) (x := ((numsR 2 (numsR 3 L).2).1.getD 1 0)) ((getD_at 0 (k := 1) (by first | omega | (simp; omega))))))) ?_; clear HF; intro a HF
      refine any_pure HF (fun _ => HS) (i := 7) rfl rfl (d := 83) rfl (by decide) (by kernel_rfl) (fun _ _ _ h => h) (v := vI (IntKind.i64.wrap (((numsR 2 (numsR 3 L).2).1.getD 1 0) : Int))) (fun _ => Yl.pure (by kernel_rfl)) ?_; clear HF; intro a HF
      replace HF := HF.as (t := 83) (u := vI (wrap64 ((numsR 2 (numsR 3 L).2).1.getD 1 0 : Int))) rfl (by rw [IntWalk.i64_left])
      refine ay HF HS 8 rfl rfl rfl (v := .agg ((⟨wrap64 ((numsR 2 (numsR 3 L).2).1.getD 0 0 : Int), wrap64 ((numsR 2 (numsR 3 L).2).1.getD 1 0 : Int)⟩ : Bs).cells)) ((Yl.build (vs := [(0, vI (wrap64 ((numsR 2 (numsR 3 L).2).1.getD 0 0 : Int))), (1, vI (wrap64 ((numsR 2 (numsR 3 L).2).1.getD 1 0 : Int)))]) rfl (by kernel_rfl) (by kernel_rfl))) ?_; clear HF; intro a HF
      refine ay HF HS 10 rfl rfl rfl (Yl.load1 rfl rfl (by kernel_rfl) (fun _ h => h.cell (i := 2) rfl rfl)) ?_; clear HF; intro a HF
      refine ay HF HS 12 rfl rfl rfl (v := vP gA38 2) (Yl.indexAddr (ad := ⟨gA38, 0, none⟩) (y := 2) (sz := 1) rfl rfl rfl (by omega) (by kernel_rfl)) ?_; clear HF; intro a HF
      refine ay HF HS 13 rfl rfl rfl (v := vQ ((numsR 3 L).1.getD 2 0)) (Yl.load1 rfl rfl (by kernel_rfl) (fun _ h => h.rowOne (i := 1) rfl (k := 2) (map_at (F := U64) (k := 2) (x := ((numsR 3 L).1.getD 2 0)) ((getD_at 0 (k := 2) (by first | omega | (simp; omega))))))) ?_; clear HF; intro a HF
      refine any_pure HF (fun _ => HS) (i := 14) rfl rfl (d := 90) rfl (by decide) (by kernel_rfl) (fun _ _ _ h => h) (v := vI (IntKind.i64.wrap (((numsR 3 L).1.getD 2 0) : Int))) (fun _ => Yl.pure (by kernel_rfl)) ?_; clear HF; intro a HF
      replace HF := HF.as (t := 90) (u := vI ((numsR 3 L).1.getD 2 0)) rfl (i64_nat rfl (by omega))
      refine any_all [16] (by kernel_rfl) rfl ?_
      refine all_cons ?_ all_nil
      refine any_op HF (i := 16) rfl rfl ?_
      refine e_call HF (vs := [.agg ((⟨wrap64 ((numsR 2 (numsR 3 L).2).1.getD 0 0 : Int), wrap64 ((numsR 2 (numsR 3 L).2).1.getD 1 0 : Int)⟩ : Bs).cells), vB (((numsR 3 L).1.getD 0 0) % 256 : Nat), vI ((numsR 3 L).1.getD 2 0), .slice X57 ((numsR 2 (numsR 3 L).2).2.length) cX57]) rfl (by kernel_rfl) (by kernel_rfl) rfl (by decide) (read07_any ⟨wrap64 ((numsR 2 (numsR 3 L).2).1.getD 0 0 : Int), wrap64 ((numsR 2 (numsR 3 L).2).1.getD 1 0 : Int)⟩ ((numsR 3 L).1.getD 0 0 % 256) (by omega) ((numsR 3 L).1.getD 2 0 : Int) (by unfold I64; omega) X57 _ cX57 (numsR 2 (numsR 3 L).2).2 _ (HM.old (hrX57 w (hrX38 w hrL))) hcX57 (numsR_lt 2 _ (numsR_lt 3 L hlL)) (by have := numsR_len 2 (numsR 3 L).2; have := numsR_len 3 L; omega) rfl) ?_
      rintro _ w92 ⟨⟨A92, c92, rfl, ho, hc92⟩, hbw⟩
      refine ⟨_, rfl, ?_⟩
      replace HM := HM.callRow hbw ho
      clear HF; intro a HF
      refine keepS (HM.picks [1, 2, 3, 4] (by decide) rfl) (fun HS => ?_)
      refine ap HF (fun _ => HS) [17, 18, 19, 20, 21] #[true, true, true, true, true, true, true, true, true, true, true, true, true, true, true, true, true, true, true, true, true, true, false] [(96, vP g3 4), (95, vI ((readR ⟨wrap64 ((numsR 2 (numsR 3 L).2).1.getD 0 0 : Int), wrap64 ((numsR 2 (numsR 3 L).2).1.getD 1 0 : Int)⟩ ((numsR 3 L).1.getD 0 0 % 256) ((numsR 3 L).1.getD 2 0 : Int) (numsR 2 (numsR 3 L).2).2).2.2)), (94, vI ((readR ⟨wrap64 ((numsR 2 (numsR 3 L).2).1.getD 0 0 : Int), wrap64 ((numsR 2 (numsR 3 L).2).1.getD 1 0 : Int)⟩ ((numsR 3 L).1.getD 0 0 % 256) ((numsR 3 L).1.getD 2 0 : Int) (numsR 2 (numsR 3 L).2).2).2.1)), (93, .slice A92 ((readR ⟨wrap64 ((numsR 2 (numsR 3 L).2).1.getD 0 0 : Int), wrap64 ((numsR 2 (numsR 3 L).2).1.getD 1 0 : Int)⟩ ((numsR 3 L).1.getD 0 0 % 256) ((numsR 3 L).1.getD 2 0 : Int) (numsR 2 (numsR 3 L).2).2).1.length) c92), (75, .tuple #[.slice A92 ((readR ⟨wrap64 ((numsR 2 (numsR 3 L).2).1.getD 0 0 : Int), wrap64 ((numsR 2 (numsR 3 L).2).1.getD 1 0 : Int)⟩ ((numsR 3 L).1.getD 0 0 % 256) ((numsR 3 L).1.getD 2 0 : Int) (numsR 2 (numsR 3 L).2).2).1.length) c92, vI ((readR ⟨wrap64 ((numsR 2 (numsR 3 L).2).1.getD 0 0 : Int), wrap64 ((numsR 2 (numsR 3 L).2).1.getD 1 0 : Int)⟩ ((numsR 3 L).1.getD 0 0 % 256) ((numsR 3 L).1.getD 2 0 : Int) (numsR 2 (numsR 3 L).2).2).2.1), vI ((readR ⟨wrap64 ((numsR 2 (numsR 3 L).2).1.getD 0 0 : Int), wrap64 ((numsR 2 (numsR 3 L).2).1.getD 1 0 : Int)⟩ ((numsR 3 L).1.getD 0 0 % 256) ((numsR 3 L).1.getD 2 0 : Int) (numsR 2 (numsR 3 L).2).2).2.2)])] ?_; clear HF; intro a HF
      refine any_all [22] (by kernel_rfl) rfl ?_
      refine all_cons ?_ all_nil
      refine any_op HF (i := 22) rfl rfl ?_
      refine e_store HF HM (i := 3) (cs := #[vB (Lb.getD 7 0), vB (((numsR 3 L).1.getD 0 0) % 256 : Nat), vI (wrap64 ((numsR 3 L).1.getD 1 0 : Int)), vI 0, .slice none 0 0]) rfl rfl rfl rfl (by kernel_rfl) rfl rfl (by simp) ?_
      clear HM; intro w14_22 HM
      refine noS (by kernel_rfl) ?_
      refine any_done (by kernel_rfl) ?_
      replace HF := HF.to [(74, .bool true), (8, .slice X57 ((numsR 2 (numsR 3 L).2).2.length) cX57), (9, vS gA57 ((numsR 2 (numsR 3 L).2).1.length) c57), (43, .bool false), (7, vS gA38 ((numsR 3 L).1.length) c38), (21, .bool false), (4, .slice (if cp = 8 then some ⟨gA, oA, none⟩ else (some ⟨gA, oA, none⟩ : Option Addr).map (·.add (8 * 1))) L.length (cp - 8)), (3, vP g3 0), (2, vP g2 0), (0, .slice (some ⟨gA, oA, none⟩) n cp)]
      refine wp_seq (from_start ?_)
      refine fy HF HM 0 rfl rfl rfl (v := .agg #[vB (Lb.getD 7 0), vB (((numsR 3 L).1.getD 0 0) % 256 : Nat), vI (wrap64 ((numsR 3 L).1.getD 1 0 : Int)), vI 0, .slice A92 ((readR ⟨wrap64 ((numsR 2 (numsR 3 L).2).1.getD 0 0 : Int), wrap64 ((numsR 2 (numsR 3 L).2).1.getD 1 0 : Int)⟩ ((numsR 3 L).1.getD 0 0 % 256) ((numsR 3 L).1.getD 2 0 : Int) (numsR 2 (numsR 3 L).2).2).1.length) c92]) (Yl.loadS rfl rfl si_rbk rfl (fun _ h => range_of_block (h.blk (i := 3) rfl))) ?_; clear HF; intro a HF
      refine from_op HF (i := 1) rfl rfl ?_
      refine e_storeAll HF HM (i := 4) (cs := #[vB 0, vB 0, vI 0, vI 0, .slice none 0 0]) (ds := #[vB (Lb.getD 7 0), vB (((numsR 3 L).1.getD 0 0) % 256 : Nat), vI (wrap64 ((numsR 3 L).1.getD 1 0 : Int)), vI 0, .slice A92 ((readR ⟨wrap64 ((numsR 2 (numsR 3 L).2).1.getD 0 0 : Int), wrap64 ((numsR 2 (numsR 3 L).2).1.getD 1 0 : Int)⟩ ((numsR 3 L).1.getD 0 0 % 256) ((numsR 3 L).1.getD 2 0 : Int) (numsR 2 (numsR 3 L).2).2).1.length) c92]) rfl rfl rfl rfl si_rbk rfl rfl (by simp [Value.oneCell']) rfl ?_
      clear HM; intro w15_1 HM
      refine from_done rfl ?_
      refine wp_ret ?_
      exact ret1 rfl HF (.cellS (i := 4) HF HM rfl rfl si_rbk rfl) (rblk_row (loose_evs hk2 (by omega) (looseRow_some ⟨by omega, by omega, by omega⟩)) (HM.own (i := 0) rfl) hc92 HM.below)
     ·have HF := HF.on 74 hb74
      have hd74 := ne_of_beq_false hb74
      refine cond_false HF rfl (wp_skip (wp_seq (from_start ?_)))
      refine fy HF HM 0 rfl rfl rfl (v := .agg #[vB (Lb.getD 7 0), vB (((numsR 3 L).1.getD 0 0) % 256 : Nat), vI (wrap64 ((numsR 3 L).1.getD 1 0 : Int)), vI 0, .slice none 0 0]) (Yl.loadS rfl rfl si_rbk rfl (fun _ h => range_of_block (h.blk (i := 2) rfl))) ?_; clear HF; intro a HF
      refine from_op HF (i := 1) rfl rfl ?_
      refine e_storeAll HF HM (i := 3) (cs := #[vB 0, vB 0, vI 0, vI 0, .slice none 0 0]) (ds := #[vB (Lb.getD 7 0), vB (((numsR 3 L).1.getD 0 0) % 256 : Nat), vI (wrap64 ((numsR 3 L).1.getD 1 0 : Int)), vI 0, .slice none 0 0]) rfl rfl rfl rfl si_rbk rfl rfl (by simp [Value.oneCell']) rfl ?_
      clear HM; intro w15_1 HM
      refine from_done rfl ?_
      replace HF := HF.to [(74, .bool false), (8, .slice X57 ((numsR 2 (numsR 3 L).2).2.length) cX57), (9, .slice A57 ((numsR 2 (numsR 3 L).2).1.length) c57), (43, .bool false), (7, vS gA38 ((numsR 3 L).1.length) c38), (21, .bool false), (4, .slice (if cp = 8 then some ⟨gA, oA, none⟩ else (some ⟨gA, oA, none⟩ : Option Addr).map (·.add (8 * 1))) L.length (cp - 8)), (3, vP g3 0), (2, vP g2 0), (0, .slice (some ⟨gA, oA, none⟩) n cp)]
      refine wp_ret ?_
      exact ret1 rfl HF (.cellS (i := 3) HF HM rfl rfl si_rbk rfl) (rblk_nil (loose_evs hk2 (by omega) (looseRow_none (by omega))) HM.below)
    ·have HF := HF.on 70 hb70
     have hd70 := of_decide_eq_false hb70
     refine fp HF 4 11 [(74, .bool false), (73, undef), (72, undef), (71, undef)] ?_; clear HF; intro a HF
     refine from_done rfl ?_
     refine cond_false HF rfl (wp_skip (wp_seq (from_start ?_)))
     refine fy HF HM 0 rfl rfl rfl (v := .agg #[vB (Lb.getD 7 0), vB (((numsR 3 L).1.getD 0 0) % 256 : Nat), vI (wrap64 ((numsR 3 L).1.getD 1 0 : Int)), vI 0, .slice none 0 0]) (Yl.loadS rfl rfl si_rbk rfl (fun _ h => range_of_block (h.blk (i := 2) rfl))) ?_; clear HF; intro a HF
     refine from_op HF (i := 1) rfl rfl ?_
     refine e_storeAll HF HM (i := 3) (cs := #[vB 0, vB 0, vI 0, vI 0, .slice none 0 0]) (ds := #[vB (Lb.getD 7 0), vB (((numsR 3 L).1.getD 0 0) % 256 : Nat), vI (wrap64 ((numsR 3 L).1.getD 1 0 : Int)), vI 0, .slice none 0 0]) rfl rfl rfl rfl si_rbk rfl rfl (by simp [Value.oneCell']) rfl ?_
     clear HM; intro w15_1 HM
     refine from_done rfl ?_
     replace HF := HF.to [(74, .bool false), (8, .slice X57 ((numsR 2 (numsR 3 L).2).2.length) cX57), (9, .slice A57 ((numsR 2 (numsR 3 L).2).1.length) c57), (43, .bool false), (7, vS gA38 ((numsR 3 L).1.length) c38), (21, .bool false), (4, .slice (if cp = 8 then some ⟨gA, oA, none⟩ else (some ⟨gA, oA, none⟩ : Option Addr).map (·.add (8 * 1))) L.length (cp - 8)), (3, vP g3 0), (2, vP g2 0), (0, .slice (some ⟨gA, oA, none⟩) n cp)]
     refine wp_ret ?_
     exact ret1 rfl HF (.cellS (i := 3) HF HM rfl rfl si_rbk rfl) (rblk_nil (loose_evs hk2 (by omega) (looseRow_none (by omega))) HM.below)
   ·have HF := HF.on 64 hb64
    have hd64 := of_decide_eq_false hb64
    refine fp HF 10 5 [(74, .bool false), (73, undef), (72, undef), (71, undef), (70, .bool false), (69, .bool false), (68, undef), (67, undef), (66, undef), (65, undef)] ?_; clear HF; intro a HF
    refine from_done rfl ?_
    refine cond_false HF rfl (wp_skip (wp_seq (from_start ?_)))
    refine fy HF HM 0 rfl rfl rfl (v := .agg #[vB (Lb.getD 7 0), vB (((numsR 3 L).1.getD 0 0) % 256 : Nat), vI (wrap64 ((numsR 3 L).1.getD 1 0 : Int)), vI 0, .slice none 0 0]) (Yl.loadS rfl rfl si_rbk rfl (fun _ h => range_of_block (h.blk (i := 2) rfl))) ?_; clear HF; intro a HF
    refine from_op HF (i := 1) rfl rfl ?_
    refine e_storeAll HF HM (i := 3) (cs := #[vB 0, vB 0, vI 0, vI 0, .slice none 0 0]) (ds := #[vB (Lb.getD 7 0), vB (((numsR 3 L).1.getD 0 0) % 256 : Nat), vI (wrap64 ((numsR 3 L).1.getD 1 0 : Int)), vI 0, .slice none 0 0]) rfl rfl rfl rfl si_rbk rfl rfl (by simp [Value.oneCell']) rfl ?_
    clear HM; intro w15_1 HM
    refine from_done rfl ?_
    refine wp_ret ?_
    exact ret1 rfl HF (.cellS (i := 3) HF HM rfl rfl si_rbk rfl) (rblk_nil (loose_evs hk2 (by omega) (looseRow_none (by omega))) HM.below)
end Go.Proofs.YtnakabnmjnfpcaaDoor

set_option linter.all false
namespace Go.Proofs.YtnakabnmjnfpcaaDoor
open Go.RowKit
theorem loose_few_evs (k : Nat) (l : List Nat) : (loose k l).evs.length ≤ 1000000 := by
  unfold loose
  split
  · unfold looseEnd; simp
  · unfold looseEvs
    split
    · simp
    · show (looseRow _ _ _).length ≤ _
      unfold looseRow
      split
      · rename_i h
        exact Nat.le_trans (readR_few _ _ _ _) (by omega)
      · simp
set_option maxRecDepth 100000 in
set_option maxHeartbeats 4000000 in
theorem rread10_any (A : Option Addr) (n cp : Nat) (l : List Nat) (w : World) (hr : Rd w w.heap.size 1 A n (l.map B8)) (hc : n ≤ cp) (hln : l.length = n) (hn : n ≤ 100000000) (hl : ∀ b ∈ l, b < 256) :
    Calls Tryd.prog 12 #[.slice A n cp] w (RReadIs w (refB l)) := by
 refine calls_enter (vs := [.slice A n cp]) Tryd.func12 rfl rfl (by kernel_rfl) (σ0 := [(0, .slice A n cp)]) rfl ?_
 intro a HF
 have HM := Mem.start w
 refine wp_seq (from_start ?_)
 refine from_op HF (i := 0) rfl rfl ?_
 refine e_alloc HF HM (cs := #[vB 0, vB 0, vI 0, vI 0, .slice none 0 0]) rfl (by kernel_rfl) rfl (by decide) ?_
 clear HF HM; intro a w2 g2 HF HM
 refine fp HF 2 1 [(4, vI 0), (3, vI 0)] ?_; clear HF; intro a HF
 refine from_done rfl ?_
 refine wp_seq (from_start ?_)
 refine fp HF 1 0 [(9, .slice A n cp)] ?_; clear HF; intro a HF
 refine from_op HF (i := 1) rfl rfl ?_
 refine e_call HF (vs := [.slice A n cp]) rfl (by kernel_rfl) (by kernel_rfl) rfl (by decide) (length10_any A n cp l _ (HM.old hr) hln (by omega) hl) ?_
 rintro _ w10 ⟨rfl, hbw⟩
 refine ⟨_, rfl, ?_⟩
 replace HM := HM.call hbw
 clear HF; intro a HF
 refine fp HF 5 2 [(6, vI ((lenR l).2)), (5, vI ((lenR l).1)), (12, vI ((lenR l).2)), (11, vI ((lenR l).1)), (8, .tuple #[vI ((lenR l).1), vI ((lenR l).2)])] ?_; clear HF; intro a HF
 refine from_done rfl ?_
 refine wp_seq (wp_seq (from_start ?_))
 refine fp HF 2 0 [(14, .bool (((lenR l).2 : Int) != (0 : Int))), (13, vI ((lenR l).2))] ?_; clear HF; intro a HF
 refine from_done rfl ?_
 rcases Bool.eq_false_or_eq_true (((lenR l).2 : Int) != (0 : Int)) with hb14 | hb14
 ·have HF := HF.on 14 hb14
  have hd14 := bne_iff_ne.1 hb14
  refine cond_true HF rfl (wp_seq (from_start ?_))
  refine fy HF HM 0 rfl rfl rfl (v := .agg #[vB 0, vB 0, vI 0, vI 0, .slice none 0 0]) (Yl.build (vs := []) rfl (by kernel_rfl) (by kernel_rfl)) ?_; clear HF; intro a HF
  refine fp HF 1 1 [(16, vI ((lenR l).2))] ?_; clear HF; intro a HF
  refine from_op HF (i := 2) rfl rfl ?_
  refine e_storeAll HF HM (i := 0) (cs := #[vB 0, vB 0, vI 0, vI 0, .slice none 0 0]) (ds := #[vB 0, vB 0, vI 0, vI 0, .slice none 0 0]) rfl rfl rfl rfl si_rbk rfl rfl (by simp [Value.oneCell']) rfl ?_
  clear HM; intro w3_2 HM
  refine fp HF 2 3 [(4, vI ((lenR l).2)), (3, vI 0)] ?_; clear HF; intro a HF
  refine from_done rfl ?_
  refine wp_ret ?_
  exact ret3 rfl HF (.cellS (i := 0) HF HM rfl rfl si_rbk rfl) (.tmp HF rfl) (.tmp HF rfl) (rread_bad (refB_len (by omega)) HM.below)
 ·have HF := HF.on 14 hb14
  have hd14 := bne_eq_false_iff_eq.1 hb14
  have hl0 : (lenR l).2 = 0 := by omega
  obtain ⟨v1, v2, v3, v4⟩ := lenR_ok hl0
  obtain ⟨Lb, hLb⟩ : ∃ x, x = l.take (lenR l).1 := ⟨_, rfl⟩
  have hrL : Rd w w.heap.size 1 A (lenR l).1 (Lb.map B8) := by rw [hLb]; exact hr.toB8 (by omega)
  have hlL : ∀ b ∈ Lb, b < 256 := by rw [hLb]; exact take_lt hl _
  have hnL : Lb.length = (lenR l).1 := by rw [hLb, List.length_take]; omega
  obtain ⟨gA, oA, rfl, _⟩ := hrL.some_at (Nat.lt_of_le_of_lt (Nat.zero_le _) (show 0 < (lenR l).1 from by omega)) (by decide)
  refine cond_false HF rfl (wp_skip (wp_seq (from_start ?_)))
  refine fp HF 2 0 [(18, vI ((lenR l).1)), (17, .slice (some ⟨gA, oA, none⟩) n cp)] ?_; clear HF; intro a HF
  refine fy HF HM 2 rfl rfl rfl (v := .slice (some ⟨gA, oA, none⟩) ((lenR l).1) cp) (Yl.sliceUpto ei_u8 (j := (lenR l).1) rfl rfl rfl (by omega)) ?_; clear HF; intro a HF
  refine fp HF 1 3 [(0, .slice (some ⟨gA, oA, none⟩) ((lenR l).1) cp)] ?_; clear HF; intro a HF
  refine from_done rfl ?_
  refine wp_seq (wp_seq (from_start ?_))
  refine fp HF 1 0 [(20, .slice (some ⟨gA, oA, none⟩) ((lenR l).1) cp)] ?_; clear HF; intro a HF
  refine from_op HF (i := 1) rfl rfl ?_
  refine e_call HF (vs := [.slice (some ⟨gA, oA, none⟩) ((lenR l).1) cp]) rfl (by kernel_rfl) (by kernel_rfl) rfl (by decide) (sealed04_any _ (lenR l).1 cp Lb _ (HM.old hrL) (by omega) hnL (by omega) hlL) ?_
  rintro _ w21 ⟨rfl, hbw⟩
  refine ⟨_, rfl, ?_⟩
  replace HM := HM.call hbw
  clear HF; intro a HF
  refine fp HF 1 2 [(22, .bool (!(sealedR Lb)))] ?_; clear HF; intro a HF
  refine from_done rfl ?_
  rcases Bool.eq_false_or_eq_true (!(sealedR Lb)) with hb22 | hb22
  ·have HF := HF.on 22 hb22
   have hs : sealedR Lb = false := by simpa using hb22
   refine cond_true HF rfl (wp_seq (from_start ?_))
   refine fy HF HM 0 rfl rfl rfl (v := .agg #[vB 0, vB 0, vI 0, vI 0, .slice none 0 0]) (Yl.build (vs := []) rfl (by kernel_rfl) (by kernel_rfl)) ?_; clear HF; intro a HF
   refine from_op HF (i := 1) rfl rfl ?_
   refine e_storeAll HF HM (i := 0) (cs := #[vB 0, vB 0, vI 0, vI 0, .slice none 0 0]) (ds := #[vB 0, vB 0, vI 0, vI 0, .slice none 0 0]) rfl rfl rfl rfl si_rbk rfl rfl (by simp [Value.oneCell']) rfl ?_
   clear HM; intro w6_1 HM
   refine fp HF 2 2 [(4, vI 102), (3, vI 0)] ?_; clear HF; intro a HF
   refine from_done rfl ?_
   replace HF := HF.to [(4, vI 102), (3, vI 0), (22, .bool true), (0, .slice (some ⟨gA, oA, none⟩) ((lenR l).1) cp), (14, .bool false), (6, vI ((lenR l).2)), (5, vI ((lenR l).1)), (2, vP g2 0)]
   refine wp_ret ?_
   exact ret3 rfl HF (.cellS (i := 0) HF HM rfl rfl si_rbk rfl) (.tmp HF rfl) (.tmp HF rfl) (rread_bad (refB_none hl0 hLb (by unfold refOf; rw [if_pos hs])) HM.below)
  ·have HF := HF.on 22 hb22
   have hs : sealedR Lb = true := by simpa using hb22
   refine cond_false HF rfl (wp_skip (wp_seq (wp_seq (from_start ?_))))
   refine fp HF 1 0 [(24, .slice (some ⟨gA, oA, none⟩) ((lenR l).1) cp)] ?_; clear HF; intro a HF
   refine fy HF HM 1 rfl rfl rfl (v := vP gA (oA + 4)) (Yl.indexAddr (ad := ⟨gA, oA, none⟩) (y := 4) (sz := 1) rfl rfl rfl (by omega) (by kernel_rfl)) ?_; clear HF; intro a HF
   have hx94 := getD_lt hlL (k := 4) (by first | omega | (simp; omega))
   refine fy HF HM 2 rfl rfl rfl (v := vB (Lb.getD 4 0)) (Yl.load1 rfl rfl (by kernel_rfl) (fun _ h => (h.old hrL).oneAt1 (k := 4) (map_at (F := B8) (k := 4) (x := (Lb.getD 4 0)) ((getD_at 0 (k := 4) (by first | omega | (simp; omega))))))) ?_; clear HF; intro a HF
   refine fp HF 2 3 [(28, .bool (((Lb.getD 4 0) : Int) != (113 : Int))), (27, .bool (((Lb.getD 4 0) : Int) != (113 : Int)))] ?_; clear HF; intro a HF
   rcases Bool.eq_false_or_eq_true (((Lb.getD 4 0) : Int) != (113 : Int)) with hb28 | hb28
   ·have HF := HF.on 28 hb28
    have hd28 := bne_iff_ne.1 hb28
    have hmg : ¬ (Lb.getD 4 0 = 113 ∧ Lb.getD 5 0 = 116) := by omega
    refine fp HF 5 5 [(33, .bool true), (32, undef), (31, undef), (30, undef), (29, undef)] ?_; clear HF; intro a HF
    refine from_done rfl ?_
    replace HF := HF.to [(33, .bool true), (22, .bool false), (0, .slice (some ⟨gA, oA, none⟩) ((lenR l).1) cp), (14, .bool false), (6, vI ((lenR l).2)), (5, vI ((lenR l).1)), (4, vI 0), (3, vI 0), (2, vP g2 0)]
    refine cond_true HF rfl (wp_seq (from_start ?_))
    refine fy HF HM 0 rfl rfl rfl (v := .agg #[vB 0, vB 0, vI 0, vI 0, .slice none 0 0]) (Yl.build (vs := []) rfl (by kernel_rfl) (by kernel_rfl)) ?_; clear HF; intro a HF
    refine from_op HF (i := 1) rfl rfl ?_
    refine e_storeAll HF HM (i := 0) (cs := #[vB 0, vB 0, vI 0, vI 0, .slice none 0 0]) (ds := #[vB 0, vB 0, vI 0, vI 0, .slice none 0 0]) rfl rfl rfl rfl si_rbk rfl rfl (by simp [Value.oneCell']) rfl ?_
    clear HM; intro w8_1 HM
    refine fp HF 2 2 [(4, vI 103), (3, vI 0)] ?_; clear HF; intro a HF
    refine from_done rfl ?_
    refine wp_ret ?_
    exact ret3 rfl HF (.cellS (i := 0) HF HM rfl rfl si_rbk rfl) (.tmp HF rfl) (.tmp HF rfl) (rread_bad (refB_none hl0 hLb (by unfold refOf; rw [if_neg (by rw [hs]; decide), if_pos hmg])) HM.below)
   ·have HF := HF.on 28 hb28
    have hd28 := bne_eq_false_iff_eq.1 hb28
    refine fp HF 1 5 [(29, .slice (some ⟨gA, oA, none⟩) ((lenR l).1) cp)] ?_; clear HF; intro a HF
    refine fy HF HM 6 rfl rfl rfl (v := vP gA (oA + 5)) (Yl.indexAddr (ad := ⟨gA, oA, none⟩) (y := 5) (sz := 1) rfl rfl rfl (by omega) (by kernel_rfl)) ?_; clear HF; intro a HF
    have hx119 := getD_lt hlL (k := 5) (by first | omega | (simp; omega))
    refine fy HF HM 7 rfl rfl rfl (v := vB (Lb.getD 5 0)) (Yl.load1 rfl rfl (by kernel_rfl) (fun _ h => (h.old hrL).oneAt1 (k := 5) (map_at (F := B8) (k := 5) (x := (Lb.getD 5 0)) ((getD_at 0 (k := 5) (by first | omega | (simp; omega))))))) ?_; clear HF; intro a HF
    refine fp HF 2 8 [(33, .bool (((Lb.getD 5 0) : Int) != (116 : Int))), (32, .bool (((Lb.getD 5 0) : Int) != (116 : Int)))] ?_; clear HF; intro a HF
    refine from_done rfl ?_
    replace HF := HF.to [(33, .bool (((Lb.getD 5 0) : Int) != (116 : Int))), (22, .bool false), (0, .slice (some ⟨gA, oA, none⟩) ((lenR l).1) cp), (14, .bool false), (6, vI ((lenR l).2)), (5, vI ((lenR l).1)), (4, vI 0), (3, vI 0), (2, vP g2 0)]
    rcases Bool.eq_false_or_eq_true (((Lb.getD 5 0) : Int) != (116 : Int)) with hb33 | hb33
    ·have HF := HF.on 33 hb33
     have hd33 := bne_iff_ne.1 hb33
     have hmg : ¬ (Lb.getD 4 0 = 113 ∧ Lb.getD 5 0 = 116) := by omega
     refine cond_true HF rfl (wp_seq (from_start ?_))
     refine fy HF HM 0 rfl rfl rfl (v := .agg #[vB 0, vB 0, vI 0, vI 0, .slice none 0 0]) (Yl.build (vs := []) rfl (by kernel_rfl) (by kernel_rfl)) ?_; clear HF; intro a HF
     refine from_op HF (i := 1) rfl rfl ?_
     refine e_storeAll HF HM (i := 0) (cs := #[vB 0, vB 0, vI 0, vI 0, .slice none 0 0]) (ds := #[vB 0, vB 0, vI 0, vI 0, .slice none 0 0]) rfl rfl rfl rfl si_rbk rfl rfl (by simp [Value.oneCell']) rfl ?_
     clear HM; intro w8_1 HM
     refine fp HF 2 2 [(4, vI 103), (3, vI 0)] ?_; clear HF; intro a HF
     refine from_done rfl ?_
     refine wp_ret ?_
     exact ret3 rfl HF (.cellS (i := 0) HF HM rfl rfl si_rbk rfl) (.tmp HF rfl) (.tmp HF rfl) (rread_bad (refB_none hl0 hLb (by unfold refOf; rw [if_neg (by rw [hs]; decide), if_pos hmg])) HM.below)
    ·have HF := HF.on 33 hb33
     have hd33 := bne_eq_false_iff_eq.1 hb33
     have hmg : Lb.getD 4 0 = 113 ∧ Lb.getD 5 0 = 116 := by omega
     refine cond_false HF rfl (wp_skip (wp_seq (wp_seq (from_start ?_))))
     refine fp HF 1 0 [(35, .slice (some ⟨gA, oA, none⟩) ((lenR l).1) cp)] ?_; clear HF; intro a HF
     refine fy HF HM 1 rfl rfl rfl (v := vP gA (oA + 6)) (Yl.indexAddr (ad := ⟨gA, oA, none⟩) (y := 6) (sz := 1) rfl rfl rfl (by omega) (by kernel_rfl)) ?_; clear HF; intro a HF
     have hx149 := getD_lt hlL (k := 6) (by first | omega | (simp; omega))
     refine fy HF HM 2 rfl rfl rfl (v := vB (Lb.getD 6 0)) (Yl.load1 rfl rfl (by kernel_rfl) (fun _ h => (h.old hrL).oneAt1 (k := 6) (map_at (F := B8) (k := 6) (x := (Lb.getD 6 0)) ((getD_at 0 (k := 6) (by first | omega | (simp; omega))))))) ?_; clear HF; intro a HF
     refine fp HF 1 3 [(38, .bool (((Lb.getD 6 0) : Int) != (1 : Int)))] ?_; clear HF; intro a HF
     refine from_done rfl ?_
     rcases Bool.eq_false_or_eq_true (((Lb.getD 6 0) : Int) != (1 : Int)) with hb38 | hb38
     ·have HF := HF.on 38 hb38
      have hd38 := bne_iff_ne.1 hb38
      refine cond_true HF rfl (wp_seq (from_start ?_))
      refine fy HF HM 0 rfl rfl rfl (v := .agg #[vB 0, vB 0, vI 0, vI 0, .slice none 0 0]) (Yl.build (vs := []) rfl (by kernel_rfl) (by kernel_rfl)) ?_; clear HF; intro a HF
      refine from_op HF (i := 1) rfl rfl ?_
      refine e_storeAll HF HM (i := 0) (cs := #[vB 0, vB 0, vI 0, vI 0, .slice none 0 0]) (ds := #[vB 0, vB 0, vI 0, vI 0, .slice none 0 0]) rfl rfl rfl rfl si_rbk rfl rfl (by simp [Value.oneCell']) rfl ?_
      clear HM; intro w10_1 HM
      refine fp HF 2 2 [(4, vI 104), (3, vI 0)] ?_; clear HF; intro a HF
      refine from_done rfl ?_
      refine wp_ret ?_
      exact ret3 rfl HF (.cellS (i := 0) HF HM rfl rfl si_rbk rfl) (.tmp HF rfl) (.tmp HF rfl) (rread_bad (refB_none hl0 hLb (by unfold refOf; rw [if_neg (by rw [hs]; decide), if_neg (fun hh => hh hmg), if_pos (by omega)])) HM.below)
     ·have HF := HF.on 38 hb38
      have hd38 := bne_eq_false_iff_eq.1 hb38
      refine cond_false HF rfl (wp_skip (wp_seq (wp_seq (from_start ?_))))
      refine fp HF 1 0 [(40, .slice (some ⟨gA, oA, none⟩) ((lenR l).1) cp)] ?_; clear HF; intro a HF
      refine fy HF HM 1 rfl rfl rfl (v := vP gA (oA + 7)) (Yl.indexAddr (ad := ⟨gA, oA, none⟩) (y := 7) (sz := 1) rfl rfl rfl (by omega) (by kernel_rfl)) ?_; clear HF; intro a HF
      have hx176 := getD_lt hlL (k := 7) (by first | omega | (simp; omega))
      refine fy HF HM 2 rfl rfl rfl (v := vB (Lb.getD 7 0)) (Yl.load1 rfl rfl (by kernel_rfl) (fun _ h => (h.old hrL).oneAt1 (k := 7) (map_at (F := B8) (k := 7) (x := (Lb.getD 7 0)) ((getD_at 0 (k := 7) (by first | omega | (simp; omega))))))) ?_; clear HF; intro a HF
      refine fp HF 2 3 [(44, .bool (((Lb.getD 7 0) : Int) != (1 : Int))), (43, .bool (((Lb.getD 7 0) : Int) != (1 : Int)))] ?_; clear HF; intro a HF
      rcases Bool.eq_false_or_eq_true (((Lb.getD 7 0) : Int) != (1 : Int)) with hb44 | hb44
      ·have HF := HF.on 44 hb44
       have hd44 := bne_iff_ne.1 hb44
       refine fp HF 1 5 [(45, .slice (some ⟨gA, oA, none⟩) ((lenR l).1) cp)] ?_; clear HF; intro a HF
       refine fy HF HM 6 rfl rfl rfl (v := vP gA (oA + 7)) (Yl.indexAddr (ad := ⟨gA, oA, none⟩) (y := 7) (sz := 1) rfl rfl rfl (by omega) (by kernel_rfl)) ?_; clear HF; intro a HF
       have hx184 := getD_lt hlL (k := 7) (by first | omega | (simp; omega))
       refine fy HF HM 7 rfl rfl rfl (v := vB (Lb.getD 7 0)) (Yl.load1 rfl rfl (by kernel_rfl) (fun _ h => (h.old hrL).oneAt1 (k := 7) (map_at (F := B8) (k := 7) (x := (Lb.getD 7 0)) ((getD_at 0 (k := 7) (by first | omega | (simp; omega))))))) ?_; clear HF; intro a HF
       refine fp HF 2 8 [(49, .bool (((Lb.getD 7 0) : Int) != (2 : Int))), (48, .bool (((Lb.getD 7 0) : Int) != (2 : Int)))] ?_; clear HF; intro a HF
       refine from_done rfl ?_
       rcases Bool.eq_false_or_eq_true (((Lb.getD 7 0) : Int) != (2 : Int)) with hb49 | hb49
       ·have HF := HF.on 49 hb49
        have hd49 := bne_iff_ne.1 hb49
        refine cond_true HF rfl (wp_seq (from_start ?_))
        refine fy HF HM 0 rfl rfl rfl (v := .agg #[vB 0, vB 0, vI 0, vI 0, .slice none 0 0]) (Yl.build (vs := []) rfl (by kernel_rfl) (by kernel_rfl)) ?_; clear HF; intro a HF
        refine from_op HF (i := 1) rfl rfl ?_
        refine e_storeAll HF HM (i := 0) (cs := #[vB 0, vB 0, vI 0, vI 0, .slice none 0 0]) (ds := #[vB 0, vB 0, vI 0, vI 0, .slice none 0 0]) rfl rfl rfl rfl si_rbk rfl rfl (by simp [Value.oneCell']) rfl ?_
        clear HM; intro w12_1 HM
        refine fp HF 2 2 [(4, vI 105), (3, vI 0)] ?_; clear HF; intro a HF
        refine from_done rfl ?_
        replace HF := HF.to [(4, vI 105), (3, vI 0), (49, .bool true), (38, .bool false), (33, .bool false), (22, .bool false), (0, .slice (some ⟨gA, oA, none⟩) ((lenR l).1) cp), (14, .bool false), (6, vI ((lenR l).2)), (5, vI ((lenR l).1)), (2, vP g2 0)]
        refine wp_ret ?_
        exact ret3 rfl HF (.cellS (i := 0) HF HM rfl rfl si_rbk rfl) (.tmp HF rfl) (.tmp HF rfl) (rread_bad (refB_none hl0 hLb (by unfold refOf; rw [if_neg (by rw [hs]; decide), if_neg (fun hh => hh hmg), if_neg (by omega), if_pos (by omega)])) HM.below)
       ·have HF := HF.on 49 hb49
        have hd49 := bne_eq_false_iff_eq.1 hb49
        have hkd : Lb.getD 7 0 = 1 ∨ Lb.getD 7 0 = 2 := by omega
        obtain ⟨hqok, hqk⟩ := loose_ok hkd (l := ((Lb.take (Lb.length - 4)).drop 8)) (drop_lt (take_lt hlL _) _)
        have hqn : (loose (Lb.getD 7 0) ((Lb.take (Lb.length - 4)).drop 8)).evs.length ≤ 1000000 := loose_few_evs _ _
        refine cond_false HF rfl (wp_skip (wp_seq (from_start ?_)))
        refine fp HF 1 0 [(51, .slice (some ⟨gA, oA, none⟩) ((lenR l).1) cp)] ?_; clear HF; intro a HF
        refine from_op HF (i := 1) rfl rfl ?_
        refine e_call HF (vs := [.slice (some ⟨gA, oA, none⟩) ((lenR l).1) cp]) rfl (by kernel_rfl) (by kernel_rfl) rfl (by decide) (parse10_any (some ⟨gA, oA, none⟩) ((lenR l).1) cp Lb ((Lb.take (Lb.length - 4)).drop 8) rfl _ (HM.old hrL) (by omega) hnL (by omega) (by omega) hlL) ?_
        rintro _ w52 ⟨⟨A52, c52, rfl, ho, hc52⟩, hbw⟩
        refine ⟨_, rfl, ?_⟩
        replace HM := HM.callRow hbw ho
        clear HF; intro a HF
        refine from_op HF (i := 2) rfl rfl ?_
        refine e_alloc HF HM (cs := #[vB 0, vB 0, vI 0, vI 0, .slice none 0 0]) rfl (by kernel_rfl) rfl (by decide) ?_
        clear HF HM; intro a w7 g7 HF HM
        refine from_op HF (i := 3) rfl rfl ?_
        refine e_storeAll HF HM (i := 0) (cs := #[vB 0, vB 0, vI 0, vI 0, .slice none 0 0]) (ds := ((loose (Lb.getD 7 0) ((Lb.take (Lb.length - 4)).drop 8)).cells A52 c52)) rfl rfl rfl rfl si_rbk rfl rfl (bk_one _ _ _) rfl ?_
        clear HM; intro w13_3 HM
        refine from_done rfl ?_
        replace HF := HF.to [(7, vP g7 0), (49, .bool false), (38, .bool false), (33, .bool false), (22, .bool false), (0, .slice (some ⟨gA, oA, none⟩) ((lenR l).1) cp), (14, .bool false), (6, vI ((lenR l).2)), (5, vI ((lenR l).1)), (4, vI 0), (3, vI 0), (2, vP g2 0)]
        refine wp_seq ?_
        refine cut_seq (fun aS wS => Fr aS 70 [] [(66, .bool (decide ((loose (Lb.getD 7 0) ((Lb.take (Lb.length - 4)).drop 8)).err ≠ 0 ∨ (loose (Lb.getD 7 0) ((Lb.take (Lb.length - 4)).drop 8)).raw ≠ Lb.take (Lb.length - 4)))), (7, vP g7 0), (49, .bool false), (38, .bool false), (33, .bool false), (22, .bool false), (0, .slice (some ⟨gA, oA, none⟩) ((lenR l).1) cp), (14, .bool false), (6, vI ((lenR l).2)), (5, vI ((lenR l).1)), (4, vI 0), (3, vI 0), (2, vP g2 0)] ∧ Mem w wS [.blk g7 ((loose (Lb.getD 7 0) ((Lb.take (Lb.length - 4)).drop 8)).cells A52 c52) 39, .row (.slice A52 ((loose (Lb.getD 7 0) ((Lb.take (Lb.length - 4)).drop 8)).evs.length) c52) ((loose (Lb.getD 7 0) ((Lb.take (Lb.length - 4)).drop 8)).evs.length) ((loose (Lb.getD 7 0) ((Lb.take (Lb.length - 4)).drop 8)).evs.flatMap evL) 65 11, .blk g2 #[vB 0, vB 0, vI 0, vI 0, .slice none 0 0] 39]) ?_ ?_
        ·
         refine any_start (by kernel_rfl) (fun wS => Mem w wS [.blk g7 ((loose (Lb.getD 7 0) ((Lb.take (Lb.length - 4)).drop 8)).cells A52 c52) 39, .row (.slice A52 ((loose (Lb.getD 7 0) ((Lb.take (Lb.length - 4)).drop 8)).evs.length) c52) ((loose (Lb.getD 7 0) ((Lb.take (Lb.length - 4)).drop 8)).evs.length) ((loose (Lb.getD 7 0) ((Lb.take (Lb.length - 4)).drop 8)).evs.flatMap evL) 65 11, .blk g2 #[vB 0, vB 0, vI 0, vI 0, .slice none 0 0] 39]) [] ?_
         replace HM := HM.drew
         have HS := HM.picks (fs' := [.blk g7 ((loose (Lb.getD 7 0) ((Lb.take (Lb.length - 4)).drop 8)).cells A52 c52) 39, .row (.slice A52 ((loose (Lb.getD 7 0) ((Lb.take (Lb.length - 4)).drop 8)).evs.length) c52) ((loose (Lb.getD 7 0) ((Lb.take (Lb.length - 4)).drop 8)).evs.length) ((loose (Lb.getD 7 0) ((Lb.take (Lb.length - 4)).drop 8)).evs.flatMap evL) 65 11, .blk g2 #[vB 0, vB 0, vI 0, vI 0, .slice none 0 0] 39]) [0, 1, 2] (by decide) rfl
         refine ay HF HS 0 rfl rfl rfl (v := .agg ((loose (Lb.getD 7 0) ((Lb.take (Lb.length - 4)).drop 8)).cells A52 c52)) (Yl.loadS rfl rfl si_rbk rfl (fun _ h => range_of_block (h.blk (i := 0) rfl))) ?_; clear HF; intro a HF
         refine any_all [1] (by kernel_rfl) rfl ?_
         refine all_cons ?_ all_nil
         refine any_op HF (i := 1) rfl rfl ?_
         refine e_call HF (vs := [.agg ((loose (Lb.getD 7 0) ((Lb.take (Lb.length - 4)).drop 8)).cells A52 c52)]) rfl (by kernel_rfl) (by kernel_rfl) rfl (by decide) (check10_any (loose (Lb.getD 7 0) ((Lb.take (Lb.length - 4)).drop 8)) hqok A52 c52 _ (HM.rd (i := 1) rfl) hqn) ?_
         rintro _ w54 ⟨rfl, hbw⟩
         refine ⟨_, rfl, ?_⟩
         replace HM := HM.call hbw
         clear HF; intro a HF
         refine keepS (HM.picks [0, 1, 2] (by decide) rfl) (fun HS => ?_)
         refine ap HF (fun _ => HS) [2, 3] #[true, true, true, true, false, false, false, false, false, false, false, false, false, false] [(56, .bool (((loose (Lb.getD 7 0) ((Lb.take (Lb.length - 4)).drop 8)).err : Int) != (0 : Int))), (55, .bool (((loose (Lb.getD 7 0) ((Lb.take (Lb.length - 4)).drop 8)).err : Int) != (0 : Int)))] ?_; clear HF; intro a HF
         rcases Bool.eq_false_or_eq_true (((loose (Lb.getD 7 0) ((Lb.take (Lb.length - 4)).drop 8)).err : Int) != (0 : Int)) with hb56 | hb56
         ·have HF := HF.on 56 hb56
          have hd56 := bne_iff_ne.1 hb56
          have hqe : (loose (Lb.getD 7 0) ((Lb.take (Lb.length - 4)).drop 8)).err ≠ 0 := by omega
          refine ap HF (fun _ => HS) [4, 5, 6, 7, 8, 9, 10, 11, 12, 13] #[true, true, true, true, true, true, true, true, true, true, true, true, true, true] [(66, .bool true), (65, undef), (64, undef), (63, undef), (62, undef), (61, undef), (60, undef), (59, undef), (58, undef), (57, undef)] ?_; clear HF; intro a HF
          refine any_done (by kernel_rfl) ?_
          have HF := HF.as (t := 66) (u := .bool (decide ((loose (Lb.getD 7 0) ((Lb.take (Lb.length - 4)).drop 8)).err ≠ 0 ∨ (loose (Lb.getD 7 0) ((Lb.take (Lb.length - 4)).drop 8)).raw ≠ Lb.take (Lb.length - 4)))) rfl (congrArg Value.bool (by rw [decide_eq_true (show ((loose (Lb.getD 7 0) ((Lb.take (Lb.length - 4)).drop 8)).err ≠ 0 ∨ (loose (Lb.getD 7 0) ((Lb.take (Lb.length - 4)).drop 8)).raw ≠ Lb.take (Lb.length - 4)) from .inl hqe)]))
          exact ⟨HF.sub (by kernel_rfl), HM.picks [0, 1, 2] (by decide) rfl⟩
         ·have HF := HF.on 56 hb56
          have hd56 := bne_eq_false_iff_eq.1 hb56
          have hqe : (loose (Lb.getD 7 0) ((Lb.take (Lb.length - 4)).drop 8)).err = 0 := by omega
          refine ap HF (fun _ => HS) [7, 8] #[true, true, true, true, false, false, false, true, true, false, false, false, false, false] [(61, vI ((lenR l).1)), (60, .slice (some ⟨gA, oA, none⟩) ((lenR l).1) cp)] ?_; clear HF; intro a HF
          refine ay HF HS 4 rfl rfl rfl (v := .agg ((loose (Lb.getD 7 0) ((Lb.take (Lb.length - 4)).drop 8)).cells A52 c52)) (Yl.loadS rfl rfl si_rbk rfl (fun _ h => range_of_block (h.blk (i := 0) rfl))) ?_; clear HF; intro a HF
          refine any_pure HF (fun _ => HS) (i := 9) rfl rfl (d := 62) rfl (by decide) (by kernel_rfl) (fun _ _ _ h => h) (v := vI (IntKind.i64.wrap (((lenR l).1 : Int) - 4))) (fun _ => Yl.pure (by kernel_rfl)) ?_; clear HF; intro a HF
          replace HF := HF.as (t := 62) (u := vI ((lenR l).1 - 4 : Nat)) rfl (i64_nat (by omega) (by omega))
          refine ay HF HS 10 rfl rfl rfl (v := .slice (some ⟨gA, oA, none⟩) ((lenR l).1 - 4) cp) (Yl.sliceUpto ei_u8 (j := (lenR l).1 - 4) rfl rfl rfl (by omega)) ?_; clear HF; intro a HF
          refine ay HF HS 11 rfl rfl rfl (v := .string (bstr (Lb.take ((lenR l).1 - 4)))) (Yl.str rfl rfl (fun _ h => h.old (hrL.toB8 (by omega)))) ?_; clear HF; intro a HF
          refine any_all [5] (by kernel_rfl) rfl ?_
          refine all_cons ?_ all_nil
          refine any_op HF (i := 5) rfl rfl ?_
          refine e_call HF (vs := [.agg ((loose (Lb.getD 7 0) ((Lb.take (Lb.length - 4)).drop 8)).cells A52 c52)]) rfl (by kernel_rfl) (by kernel_rfl) rfl (by decide) (bytes10_any (loose (Lb.getD 7 0) ((Lb.take (Lb.length - 4)).drop 8)) hqok A52 c52 _ (HM.rd (i := 1) rfl) hqn (err_zero hqe).1) ?_
          rintro _ w58 ⟨⟨A58, c58, rfl, ho, hc58⟩, hbw⟩
          refine ⟨_, rfl, ?_⟩
          replace HM := HM.callRow hbw ho
          clear HF; intro a HF
          refine keepS (HM.picks [1, 2, 3] (by decide) rfl) (fun HS => ?_)
          refine any_all [6] (by kernel_rfl) rfl ?_
          refine all_cons ?_ all_nil
          refine any_op HF (i := 6) rfl rfl ?_
          refine Yl.wp (S := fun wS => Mem w wS _) (v := .string (bstr ((loose (Lb.getD 7 0) ((Lb.take (Lb.length - 4)).drop 8)).raw))) (Yl.str rfl rfl (fun _ h => h.rd (i := 0) rfl)) HF HM rfl (by decide) ?_; clear HF; intro a HF
          refine keepS HS (fun HS => ?_)
          refine ap HF (fun _ => HS) [12, 13] #[true, true, true, true, true, true, true, true, true, true, true, true, true, true] [(66, .bool (!(((bstr ((loose (Lb.getD 7 0) ((Lb.take (Lb.length - 4)).drop 8)).raw))).toList == ((bstr (Lb.take ((lenR l).1 - 4)))).toList))), (65, .bool (!(((bstr ((loose (Lb.getD 7 0) ((Lb.take (Lb.length - 4)).drop 8)).raw))).toList == ((bstr (Lb.take ((lenR l).1 - 4)))).toList)))] ?_; clear HF; intro a HF
          refine any_done (by kernel_rfl) ?_
          replace HM := HM.picks (fs' := [.blk g7 ((loose (Lb.getD 7 0) ((Lb.take (Lb.length - 4)).drop 8)).cells A52 c52) 39, .row (.slice A52 ((loose (Lb.getD 7 0) ((Lb.take (Lb.length - 4)).drop 8)).evs.length) c52) ((loose (Lb.getD 7 0) ((Lb.take (Lb.length - 4)).drop 8)).evs.length) ((loose (Lb.getD 7 0) ((Lb.take (Lb.length - 4)).drop 8)).evs.flatMap evL) 65 11, .blk g2 #[vB 0, vB 0, vI 0, vI 0, .slice none 0 0] 39]) [1, 2, 3] (by decide) rfl
          have HF := HF.as (t := 66) (u := .bool (decide ((loose (Lb.getD 7 0) ((Lb.take (Lb.length - 4)).drop 8)).err ≠ 0 ∨ (loose (Lb.getD 7 0) ((Lb.take (Lb.length - 4)).drop 8)).raw ≠ Lb.take (Lb.length - 4)))) rfl (congrArg Value.bool (by rw [bstr_ne (raw_lt hqok) (take_lt hlL _), ← hnL, raw_ne hqe]))
          exact ⟨HF.sub (by kernel_rfl), HM.picks [0, 1, 2] (by decide) rfl⟩
        clear HF HM; rintro a w14 ⟨HF, HM⟩
        rcases Bool.eq_false_or_eq_true (decide ((loose (Lb.getD 7 0) ((Lb.take (Lb.length - 4)).drop 8)).err ≠ 0 ∨ (loose (Lb.getD 7 0) ((Lb.take (Lb.length - 4)).drop 8)).raw ≠ Lb.take (Lb.length - 4))) with hb66 | hb66
        ·have HF := HF.on 66 hb66
         have hd66 := of_decide_eq_true hb66
         have hqr : ((loose (Lb.getD 7 0) ((Lb.take (Lb.length - 4)).drop 8)).err ≠ 0 ∨ (loose (Lb.getD 7 0) ((Lb.take (Lb.length - 4)).drop 8)).raw ≠ Lb.take (Lb.length - 4)) := of_decide_eq_true hb66
         refine cond_true HF rfl (wp_seq (from_start ?_))
         refine fy HF HM 0 rfl rfl rfl (v := .agg #[vB 0, vB 0, vI 0, vI 0, .slice none 0 0]) (Yl.build (vs := []) rfl (by kernel_rfl) (by kernel_rfl)) ?_; clear HF; intro a HF
         refine from_op HF (i := 1) rfl rfl ?_
         refine e_storeAll HF HM (i := 2) (cs := #[vB 0, vB 0, vI 0, vI 0, .slice none 0 0]) (ds := #[vB 0, vB 0, vI 0, vI 0, .slice none 0 0]) rfl rfl rfl rfl si_rbk rfl rfl (by simp [Value.oneCell']) rfl ?_
         clear HM; intro w15_1 HM
         refine fp HF 2 2 [(4, vI 106), (3, vI 0)] ?_; clear HF; intro a HF
         refine from_done rfl ?_
         refine wp_ret ?_
         exact ret3 rfl HF (.cellS (i := 2) HF HM rfl rfl si_rbk rfl) (.tmp HF rfl) (.tmp HF rfl) (rread_bad (refB_none hl0 hLb (by unfold refOf; rw [if_neg (by rw [hs]; decide), if_neg (fun hh => hh hmg), if_neg (by omega), if_neg (by omega), if_pos hqr])) HM.below)
        ·have HF := HF.on 66 hb66
         have hd66 := of_decide_eq_false hb66
         have hqr : ¬ ((loose (Lb.getD 7 0) ((Lb.take (Lb.length - 4)).drop 8)).err ≠ 0 ∨ (loose (Lb.getD 7 0) ((Lb.take (Lb.length - 4)).drop 8)).raw ≠ Lb.take (Lb.length - 4)) := of_decide_eq_false hb66
         refine cond_false HF rfl (wp_skip (wp_seq (from_start ?_)))
         refine fy HF HM 0 rfl rfl rfl (v := .agg ((loose (Lb.getD 7 0) ((Lb.take (Lb.length - 4)).drop 8)).cells A52 c52)) (Yl.loadS rfl rfl si_rbk rfl (fun _ h => range_of_block (h.blk (i := 0) rfl))) ?_; clear HF; intro a HF
         refine fp HF 1 1 [(69, vI ((lenR l).1))] ?_; clear HF; intro a HF
         refine from_op HF (i := 2) rfl rfl ?_
         refine e_storeAll HF HM (i := 2) (cs := #[vB 0, vB 0, vI 0, vI 0, .slice none 0 0]) (ds := ((loose (Lb.getD 7 0) ((Lb.take (Lb.length - 4)).drop 8)).cells A52 c52)) rfl rfl rfl rfl si_rbk rfl rfl (bk_one _ _ _) rfl ?_
         clear HM; intro w16_2 HM
         refine fp HF 2 3 [(4, vI 0), (3, vI ((lenR l).1))] ?_; clear HF; intro a HF
         refine from_done rfl ?_
         refine wp_ret ?_
         exact ret3 rfl HF (.cellS (i := 2) HF HM rfl rfl si_rbk rfl) (.tmp HF rfl) (.tmp HF rfl) (rread_ok (refB_some (e := 0) hl0 hLb (by unfold refOf; rw [if_neg (by rw [hs]; decide), if_neg (fun hh => hh hmg), if_neg (by omega), if_neg (by omega), if_neg hqr])) (HM.own (i := 1) rfl) hc52 HM.below)
      ·have HF := HF.on 44 hb44
       have hd44 := bne_eq_false_iff_eq.1 hb44
       have hkd : Lb.getD 7 0 = 1 ∨ Lb.getD 7 0 = 2 := by omega
       obtain ⟨hqok, hqk⟩ := loose_ok hkd (l := ((Lb.take (Lb.length - 4)).drop 8)) (drop_lt (take_lt hlL _) _)
       have hqn : (loose (Lb.getD 7 0) ((Lb.take (Lb.length - 4)).drop 8)).evs.length ≤ 1000000 := loose_few_evs _ _
       refine fp HF 5 5 [(49, .bool false), (48, undef), (47, undef), (46, undef), (45, undef)] ?_; clear HF; intro a HF
       refine from_done rfl ?_
       refine cond_false HF rfl (wp_skip (wp_seq (from_start ?_)))
       refine fp HF 1 0 [(51, .slice (some ⟨gA, oA, none⟩) ((lenR l).1) cp)] ?_; clear HF; intro a HF
       refine from_op HF (i := 1) rfl rfl ?_
       refine e_call HF (vs := [.slice (some ⟨gA, oA, none⟩) ((lenR l).1) cp]) rfl (by kernel_rfl) (by kernel_rfl) rfl (by decide) (parse10_any (some ⟨gA, oA, none⟩) ((lenR l).1) cp Lb ((Lb.take (Lb.length - 4)).drop 8) rfl _ (HM.old hrL) (by omega) hnL (by omega) (by omega) hlL) ?_
       rintro _ w52 ⟨⟨A52, c52, rfl, ho, hc52⟩, hbw⟩
       refine ⟨_, rfl, ?_⟩
       replace HM := HM.callRow hbw ho
       clear HF; intro a HF
       refine from_op HF (i := 2) rfl rfl ?_
       refine e_alloc HF HM (cs := #[vB 0, vB 0, vI 0, vI 0, .slice none 0 0]) rfl (by kernel_rfl) rfl (by decide) ?_
       clear HF HM; intro a w7 g7 HF HM
       refine from_op HF (i := 3) rfl rfl ?_
       refine e_storeAll HF HM (i := 0) (cs := #[vB 0, vB 0, vI 0, vI 0, .slice none 0 0]) (ds := ((loose (Lb.getD 7 0) ((Lb.take (Lb.length - 4)).drop 8)).cells A52 c52)) rfl rfl rfl rfl si_rbk rfl rfl (bk_one _ _ _) rfl ?_
       clear HM; intro w13_3 HM
       refine from_done rfl ?_
       replace HF := HF.to [(7, vP g7 0), (49, .bool false), (38, .bool false), (33, .bool false), (22, .bool false), (0, .slice (some ⟨gA, oA, none⟩) ((lenR l).1) cp), (14, .bool false), (6, vI ((lenR l).2)), (5, vI ((lenR l).1)), (4, vI 0), (3, vI 0), (2, vP g2 0)]
       refine wp_seq ?_
       refine cut_seq (fun aS wS => Fr aS 70 [] [(66, .bool (decide ((loose (Lb.getD 7 0) ((Lb.take (Lb.length - 4)).drop 8)).err ≠ 0 ∨ (loose (Lb.getD 7 0) ((Lb.take (Lb.length - 4)).drop 8)).raw ≠ Lb.take (Lb.length - 4)))), (7, vP g7 0), (49, .bool false), (38, .bool false), (33, .bool false), (22, .bool false), (0, .slice (some ⟨gA, oA, none⟩) ((lenR l).1) cp), (14, .bool false), (6, vI ((lenR l).2)), (5, vI ((lenR l).1)), (4, vI 0), (3, vI 0), (2, vP g2 0)] ∧ Mem w wS [.blk g7 ((loose (Lb.getD 7 0) ((Lb.take (Lb.length - 4)).drop 8)).cells A52 c52) 39, .row (.slice A52 ((loose (Lb.getD 7 0) ((Lb.take (Lb.length - 4)).drop 8)).evs.length) c52) ((loose (Lb.getD 7 0) ((Lb.take (Lb.length - 4)).drop 8)).evs.length) ((loose (Lb.getD 7 0) ((Lb.take (Lb.length - 4)).drop 8)).evs.flatMap evL) 65 11, .blk g2 #[vB 0, vB 0, vI 0, vI 0, .slice none 0 0] 39]) ?_ ?_
       ·
        refine any_start (by kernel_rfl) (fun wS => Mem w wS [.blk g7 ((loose (Lb.getD 7 0) ((Lb.take (Lb.length - 4)).drop 8)).cells A52 c52) 39, .row (.slice A52 ((loose (Lb.getD 7 0) ((Lb.take (Lb.length - 4)).drop 8)).evs.length) c52) ((loose (Lb.getD 7 0) ((Lb.take (Lb.length - 4)).drop 8)).evs.length) ((loose (Lb.getD 7 0) ((Lb.take (Lb.length - 4)).drop 8)).evs.flatMap evL) 65 11, .blk g2 #[vB 0, vB 0, vI 0, vI 0, .slice none 0 0] 39]) [] ?_
        replace HM := HM.drew
        have HS := HM.picks (fs' := [.blk g7 ((loose (Lb.getD 7 0) ((Lb.take (Lb.length - 4)).drop 8)).cells A52 c52) 39, .row (.slice A52 ((loose (Lb.getD 7 0) ((Lb.take (Lb.length - 4)).drop 8)).evs.length) c52) ((loose (Lb.getD 7 0) ((Lb.take (Lb.length - 4)).drop 8)).evs.length) ((loose (Lb.getD 7 0) ((Lb.take (Lb.length - 4)).drop 8)).evs.flatMap evL) 65 11, .blk g2 #[vB 0, vB 0, vI 0, vI 0, .slice none 0 0] 39]) [0, 1, 2] (by decide) rfl
        refine ay HF HS 0 rfl rfl rfl (v := .agg ((loose (Lb.getD 7 0) ((Lb.take (Lb.length - 4)).drop 8)).cells A52 c52)) (Yl.loadS rfl rfl si_rbk rfl (fun _ h => range_of_block (h.blk (i := 0) rfl))) ?_; clear HF; intro a HF
        refine any_all [1] (by kernel_rfl) rfl ?_
        refine all_cons ?_ all_nil
        refine any_op HF (i := 1) rfl rfl ?_
        refine e_call HF (vs := [.agg ((loose (Lb.getD 7 0) ((Lb.take (Lb.length - 4)).drop 8)).cells A52 c52)]) rfl (by kernel_rfl) (by kernel_rfl) rfl (by decide) (check10_any (loose (Lb.getD 7 0) ((Lb.take (Lb.length - 4)).drop 8)) hqok A52 c52 _ (HM.rd (i := 1) rfl) hqn) ?_
        rintro _ w54 ⟨rfl, hbw⟩
        refine ⟨_, rfl, ?_⟩
        replace HM := HM.call hbw
        clear HF; intro a HF
        refine keepS (HM.picks [0, 1, 2] (by decide) rfl) (fun HS => ?_)
        refine ap HF (fun _ => HS) [2, 3] #[true, true, true, true, false, false, false, false, false, false, false, false, false, false] [(56, .bool (((loose (Lb.getD 7 0) ((Lb.take (Lb.length - 4)).drop 8)).err : Int) != (0 : Int))), (55, .bool (((loose (Lb.getD 7 0) ((Lb.take (Lb.length - 4)).drop 8)).err : Int) != (0 : Int)))] ?_; clear HF; intro a HF
        rcases Bool.eq_false_or_eq_true (((loose (Lb.getD 7 0) ((Lb.take (Lb.length - 4)).drop 8)).err : Int) != (0 : Int)) with hb56 | hb56
        ·have HF := HF.on 56 hb56
         have hd56 := bne_iff_ne.1 hb56
         have hqe : (loose (Lb.getD 7 0) ((Lb.take (Lb.length - 4)).drop 8)).err ≠ 0 := by omega
         refine ap HF (fun _ => HS) [4, 5, 6, 7, 8, 9, 10, 11, 12, 13] #[true, true, true, true, true, true, true, true, true, true, true, true, true, true] [(66, .bool true), (65, undef), (64, undef), (63, undef), (62, undef), (61, undef), (60, undef), (59, undef), (58, undef), (57, undef)] ?_; clear HF; intro a HF
         refine any_done (by kernel_rfl) ?_
         have HF := HF.as (t := 66) (u := .bool (decide ((loose (Lb.getD 7 0) ((Lb.take (Lb.length - 4)).drop 8)).err ≠ 0 ∨ (loose (Lb.getD 7 0) ((Lb.take (Lb.length - 4)).drop 8)).raw ≠ Lb.take (Lb.length - 4)))) rfl (congrArg Value.bool (by rw [decide_eq_true (show ((loose (Lb.getD 7 0) ((Lb.take (Lb.length - 4)).drop 8)).err ≠ 0 ∨ (loose (Lb.getD 7 0) ((Lb.take (Lb.length - 4)).drop 8)).raw ≠ Lb.take (Lb.length - 4)) from .inl hqe)]))
         exact ⟨HF.sub (by kernel_rfl), HM.picks [0, 1, 2] (by decide) rfl⟩
        ·have HF := HF.on 56 hb56
         have hd56 := bne_eq_false_iff_eq.1 hb56
         have hqe : (loose (Lb.getD 7 0) ((Lb.take (Lb.length - 4)).drop 8)).err = 0 := by omega
         refine ap HF (fun _ => HS) [7, 8] #[true, true, true, true, false, false, false, true, true, false, false, false, false, false] [(61, vI ((lenR l).1)), (60, .slice (some ⟨gA, oA, none⟩) ((lenR l).1) cp)] ?_; clear HF; intro a HF
         refine ay HF HS 4 rfl rfl rfl (v := .agg ((loose (Lb.getD 7 0) ((Lb.take (Lb.length - 4)).drop 8)).cells A52 c52)) (Yl.loadS rfl rfl si_rbk rfl (fun _ h => range_of_block (h.blk (i := 0) rfl))) ?_; clear HF; intro a HF
         refine any_pure HF (fun _ => HS) (i := 9) rfl rfl (d := 62) rfl (by decide) (by kernel_rfl) (fun _ _ _ h => h) (v := vI (IntKind.i64.wrap (((lenR l).1 : Int) - 4))) (fun _ => Yl.pure (by kernel_rfl)) ?_; clear HF; intro a HF
         replace HF := HF.as (t := 62) (u := vI ((lenR l).1 - 4 : Nat)) rfl (i64_nat (by omega) (by omega))
         refine ay HF HS 10 rfl rfl rfl (v := .slice (some ⟨gA, oA, none⟩) ((lenR l).1 - 4) cp) (Yl.sliceUpto ei_u8 (j := (lenR l).1 - 4) rfl rfl rfl (by omega)) ?_; clear HF; intro a HF
         refine ay HF HS 11 rfl rfl rfl (v := .string (bstr (Lb.take ((lenR l).1 - 4)))) (Yl.str rfl rfl (fun _ h => h.old (hrL.toB8 (by omega)))) ?_; clear HF; intro a HF
         refine any_all [5] (by kernel_rfl) rfl ?_
         refine all_cons ?_ all_nil
         refine any_op HF (i := 5) rfl rfl ?_
         refine e_call HF (vs := [.agg ((loose (Lb.getD 7 0) ((Lb.take (Lb.length - 4)).drop 8)).cells A52 c52)]) rfl (by kernel_rfl) (by kernel_rfl) rfl (by decide) (bytes10_any (loose (Lb.getD 7 0) ((Lb.take (Lb.length - 4)).drop 8)) hqok A52 c52 _ (HM.rd (i := 1) rfl) hqn (err_zero hqe).1) ?_
         rintro _ w58 ⟨⟨A58, c58, rfl, ho, hc58⟩, hbw⟩
         refine ⟨_, rfl, ?_⟩
         replace HM := HM.callRow hbw ho
         clear HF; intro a HF
         refine keepS (HM.picks [1, 2, 3] (by decide) rfl) (fun HS => ?_)
         refine any_all [6] (by kernel_rfl) rfl ?_
         refine all_cons ?_ all_nil
         refine any_op HF (i := 6) rfl rfl ?_
         refine Yl.wp (S := fun wS => Mem w wS _) (v := .string (bstr ((loose (Lb.getD 7 0) ((Lb.take (Lb.length - 4)).drop 8)).raw))) (Yl.str rfl rfl (fun _ h => h.rd (i := 0) rfl)) HF HM rfl (by decide) ?_; clear HF; intro a HF
         refine keepS HS (fun HS => ?_)
         refine ap HF (fun _ => HS) [12, 13] #[true, true, true, true, true, true, true, true, true, true, true, true, true, true] [(66, .bool (!(((bstr ((loose (Lb.getD 7 0) ((Lb.take (Lb.length - 4)).drop 8)).raw))).toList == ((bstr (Lb.take ((lenR l).1 - 4)))).toList))), (65, .bool (!(((bstr ((loose (Lb.getD 7 0) ((Lb.take (Lb.length - 4)).drop 8)).raw))).toList == ((bstr (Lb.take ((lenR l).1 - 4)))).toList)))] ?_; clear HF; intro a HF
         refine any_done (by kernel_rfl) ?_
         replace HM := HM.picks (fs' := [.blk g7 ((loose (Lb.getD 7 0) ((Lb.take (Lb.length - 4)).drop 8)).cells A52 c52) 39, .row (.slice A52 ((loose (Lb.getD 7 0) ((Lb.take (Lb.length - 4)).drop 8)).evs.length) c52) ((loose (Lb.getD 7 0) ((Lb.take (Lb.length - 4)).drop 8)).evs.length) ((loose (Lb.getD 7 0) ((Lb.take (Lb.length - 4)).drop 8)).evs.flatMap evL) 65 11, .blk g2 #[vB 0, vB 0, vI 0, vI 0, .slice none 0 0] 39]) [1, 2, 3] (by decide) rfl
         have HF := HF.as (t := 66) (u := .bool (decide ((loose (Lb.getD 7 0) ((Lb.take (Lb.length - 4)).drop 8)).err ≠ 0 ∨ (loose (Lb.getD 7 0) ((Lb.take (Lb.length - 4)).drop 8)).raw ≠ Lb.take (Lb.length - 4)))) rfl (congrArg Value.bool (by rw [bstr_ne (raw_lt hqok) (take_lt hlL _), ← hnL, raw_ne hqe]))
         exact ⟨HF.sub (by kernel_rfl), HM.picks [0, 1, 2] (by decide) rfl⟩
       clear HF HM; rintro a w14 ⟨HF, HM⟩
       rcases Bool.eq_false_or_eq_true (decide ((loose (Lb.getD 7 0) ((Lb.take (Lb.length - 4)).drop 8)).err ≠ 0 ∨ (loose (Lb.getD 7 0) ((Lb.take (Lb.length - 4)).drop 8)).raw ≠ Lb.take (Lb.length - 4))) with hb66 | hb66
       ·have HF := HF.on 66 hb66
        have hd66 := of_decide_eq_true hb66
        have hqr : ((loose (Lb.getD 7 0) ((Lb.take (Lb.length - 4)).drop 8)).err ≠ 0 ∨ (loose (Lb.getD 7 0) ((Lb.take (Lb.length - 4)).drop 8)).raw ≠ Lb.take (Lb.length - 4)) := of_decide_eq_true hb66
        refine cond_true HF rfl (wp_seq (from_start ?_))
        refine fy HF HM 0 rfl rfl rfl (v := .agg #[vB 0, vB 0, vI 0, vI 0, .slice none 0 0]) (Yl.build (vs := []) rfl (by kernel_rfl) (by kernel_rfl)) ?_; clear HF; intro a HF
        refine from_op HF (i := 1) rfl rfl ?_
        refine e_storeAll HF HM (i := 2) (cs := #[vB 0, vB 0, vI 0, vI 0, .slice none 0 0]) (ds := #[vB 0, vB 0, vI 0, vI 0, .slice none 0 0]) rfl rfl rfl rfl si_rbk rfl rfl (by simp [Value.oneCell']) rfl ?_
        clear HM; intro w15_1 HM
        refine fp HF 2 2 [(4, vI 106), (3, vI 0)] ?_; clear HF; intro a HF
        refine from_done rfl ?_
        refine wp_ret ?_
        exact ret3 rfl HF (.cellS (i := 2) HF HM rfl rfl si_rbk rfl) (.tmp HF rfl) (.tmp HF rfl) (rread_bad (refB_none hl0 hLb (by unfold refOf; rw [if_neg (by rw [hs]; decide), if_neg (fun hh => hh hmg), if_neg (by omega), if_neg (by omega), if_pos hqr])) HM.below)
       ·have HF := HF.on 66 hb66
        have hd66 := of_decide_eq_false hb66
        have hqr : ¬ ((loose (Lb.getD 7 0) ((Lb.take (Lb.length - 4)).drop 8)).err ≠ 0 ∨ (loose (Lb.getD 7 0) ((Lb.take (Lb.length - 4)).drop 8)).raw ≠ Lb.take (Lb.length - 4)) := of_decide_eq_false hb66
        refine cond_false HF rfl (wp_skip (wp_seq (from_start ?_)))
        refine fy HF HM 0 rfl rfl rfl (v := .agg ((loose (Lb.getD 7 0) ((Lb.take (Lb.length - 4)).drop 8)).cells A52 c52)) (Yl.loadS rfl rfl si_rbk rfl (fun _ h => range_of_block (h.blk (i := 0) rfl))) ?_; clear HF; intro a HF
        refine fp HF 1 1 [(69, vI ((lenR l).1))] ?_; clear HF; intro a HF
        refine from_op HF (i := 2) rfl rfl ?_
        refine e_storeAll HF HM (i := 2) (cs := #[vB 0, vB 0, vI 0, vI 0, .slice none 0 0]) (ds := ((loose (Lb.getD 7 0) ((Lb.take (Lb.length - 4)).drop 8)).cells A52 c52)) rfl rfl rfl rfl si_rbk rfl rfl (bk_one _ _ _) rfl ?_
        clear HM; intro w16_2 HM
        refine fp HF 2 3 [(4, vI 0), (3, vI ((lenR l).1))] ?_; clear HF; intro a HF
        refine from_done rfl ?_
        refine wp_ret ?_
        exact ret3 rfl HF (.cellS (i := 2) HF HM rfl rfl si_rbk rfl) (.tmp HF rfl) (.tmp HF rfl) (rread_ok (refB_some (e := 0) hl0 hLb (by unfold refOf; rw [if_neg (by rw [hs]; decide), if_neg (fun hh => hh hmg), if_neg (by omega), if_neg (by omega), if_neg hqr])) (HM.own (i := 1) rfl) hc52 HM.below)
end Go.Proofs.YtnakabnmjnfpcaaDoor

set_option linter.all false
namespace Go.Proofs.YtnakabnmjnfpcaaDoor
open Go.RowKit
set_option maxRecDepth 100000 in
set_option maxHeartbeats 4000000 in
theorem turned10_any (b : Bk) (A : Option Addr) (c : Nat) (w : World) (hr : Rd w w.heap.size 11 A b.evs.length (b.evs.flatMap evL)) (hn : b.evs.length ≤ 1000000) :
    Calls Tryd.prog 14 #[.agg (b.cells A c)] w (RBlkIs w b) := by
 refine calls_enter (vs := [.agg (b.cells A c)]) Tryd.func14 rfl rfl (by kernel_rfl) (σ0 := [(0, .agg (b.cells A c))]) rfl ?_
 intro a HF
 have HM := Mem.start w
 refine wp_seq (from_start ?_)
 refine from_op HF (i := 0) rfl rfl ?_
 refine e_box HF HM (cs := (b.cells A c)) rfl rfl rfl rfl (by decide) ?_
 clear HF HM; intro a w1 g1 HF HM
 refine from_op HF (i := 1) rfl rfl ?_
 refine e_alloc HF HM (cs := #[vB 0, vB 0, vI 0, vI 0, .slice none 0 0]) rfl (by kernel_rfl) rfl (by decide) ?_
 clear HF HM; intro a w2 g2 HF HM
 refine from_done rfl ?_
 refine wp_seq (from_start ?_)
 refine fp HF 1 0 [(6, vP g1 0)] ?_; clear HF; intro a HF
 refine fy HF HM 1 rfl rfl rfl (v := vB b.kind) (Yl.load1 rfl rfl (by kernel_rfl) (fun _ h => h.cell (i := 1) rfl (rfl))) ?_; clear HF; intro a HF
 refine fp HF 1 2 [(8, vP g1 1)] ?_; clear HF; intro a HF
 refine fy HF HM 3 rfl rfl rfl (v := vB b.cpu) (Yl.load1 rfl rfl (by kernel_rfl) (fun _ h => h.cell (i := 1) rfl (rfl))) ?_; clear HF; intro a HF
 refine fp HF 1 4 [(10, vP g1 2)] ?_; clear HF; intro a HF
 refine fy HF HM 5 rfl rfl rfl (v := vI b.lost) (Yl.load1 rfl rfl (by kernel_rfl) (fun _ h => h.cell (i := 1) rfl (rfl))) ?_; clear HF; intro a HF
 refine fp HF 1 6 [(12, vP g1 3)] ?_; clear HF; intro a HF
 refine fy HF HM 7 rfl rfl rfl (v := vI b.next) (Yl.load1 rfl rfl (by kernel_rfl) (fun _ h => h.cell (i := 1) rfl (rfl))) ?_; clear HF; intro a HF
 refine fy HF HM 8 rfl rfl rfl (v := .agg #[vB b.kind, vB b.cpu, vI b.lost, vI b.next, .slice none 0 0]) (Yl.build (vs := [(0, vB b.kind), (1, vB b.cpu), (2, vI b.lost), (3, vI b.next)]) rfl (by kernel_rfl) (by kernel_rfl)) ?_; clear HF; intro a HF
 refine from_op HF (i := 9) rfl rfl ?_
 refine e_alloc HF HM (cs := #[vB 0, vB 0, vI 0, vI 0, .slice none 0 0]) rfl (by kernel_rfl) rfl (by decide) ?_
 clear HF HM; intro a w3 g3 HF HM
 refine from_op HF (i := 10) rfl rfl ?_
 refine e_storeAll HF HM (i := 0) (cs := #[vB 0, vB 0, vI 0, vI 0, .slice none 0 0]) (ds := #[vB b.kind, vB b.cpu, vI b.lost, vI b.next, .slice none 0 0]) rfl rfl rfl rfl si_rbk rfl rfl (by simp [Value.oneCell']) rfl ?_
 clear HM; intro w1_10 HM
 refine from_done rfl ?_
 replace HM := HM.nil 65 11
 refine wp_seq (wp_seq (from_start ?_))
 refine fp HF 1 0 [(15, vP g1 4)] ?_; clear HF; intro a HF
 refine fy HF HM 1 rfl rfl rfl (v := .slice A b.evs.length c) (Yl.load1 rfl rfl (by kernel_rfl) (fun _ h => h.cell (i := 3) rfl (rfl))) ?_; clear HF; intro a HF
 refine fy HF HM 2 rfl rfl rfl (Yl.len rfl rfl (by kernel_rfl)) ?_; clear HF; intro a HF
 refine fp HF 1 3 [(18, vI 0)] ?_; clear HF; intro a HF
 refine from_done rfl ?_
 refine wp_block ?_
 refine loop_nat (fun mS aS wS => ∃ (k : Nat) (Ak : Option Addr) (ck : Nat), (k ≤ b.evs.length) ∧ (k ≤ ck) ∧ mS = b.evs.length - k ∧ Fr aS 30 [] [(18, vI k), (17, vI b.evs.length), (16, .slice A b.evs.length c), (3, vP g3 0), (2, vP g2 0), (1, vP g1 0)] ∧ Mem w wS [.row (.slice Ak k ck) k ((b.evs.take k).flatMap evL) 65 11, .blk g3 #[vB b.kind, vB b.cpu, vI b.lost, vI b.next, .slice Ak k ck] 39, .blk g2 #[vB 0, vB 0, vI 0, vI 0, .slice none 0 0] 39, .blk g1 (b.cells A c) 27]) (m := b.evs.length - 0) ⟨0, none, 0, Nat.zero_le _, Nat.le_refl _, rfl, HF.sub (by kernel_rfl), HM.picks [0, 1, 2, 3] (by decide) rfl⟩ ?_
 clear HF HM; rintro mS a w_ ⟨k, Ak, ck, hk, hck, rfl, HF, HM⟩
 refine wp_seq (from_start ?_)
 refine fp HF 1 0 [(19, .bool (decide ((k : Int) < (b.evs.length : Int))))] ?_; clear HF; intro a HF
 refine from_done rfl ?_
 refine wp_seq ?_
 rcases Bool.eq_false_or_eq_true (decide ((k : Int) < (b.evs.length : Int))) with hb19 | hb19
 ·have HF := HF.on 19 hb19
  have hd19 := of_decide_eq_true hb19
  have hk19 : k < b.evs.length := by omega
  refine cond_true HF rfl (wp_skip (wp_seq (wp_block (wp_seq (from_start ?_)))))
  obtain ⟨gA, oA, rfl, _⟩ := hr.some_at (Nat.lt_of_le_of_lt (Nat.zero_le _) (show k < b.evs.length from by omega)) (by decide)
  refine fy HF HM 0 rfl rfl rfl (v := vP gA (oA + k * 11)) ((Yl.indexAddr (ad := ⟨gA, oA, none⟩) (y := k) (sz := 11) rfl rfl rfl (by omega) (by kernel_rfl)).as (by rw [Addr.add_mid])) ?_; clear HF; intro a HF
  refine fy HF HM 1 rfl rfl rfl (v := .agg ((b.evs.getD k Ev.zero).cells)) (Yl.loadS rfl rfl ⟨(by kernel_rfl), (by kernel_rfl)⟩ rfl (fun _ h => (h.old hr).structAt evL_len ((getD_at Ev.zero (k := k) (by first | omega | (simp; omega)))))) ?_; clear HF; intro a HF
  refine from_op HF (i := 2) rfl rfl ?_
  refine e_alloc HF HM (cs := #[vI 0, vI 0, vB 0, vB 0, vI 0, vI 0, vI 0, vI 0, vI 0, vQ 0, vI 0]) rfl (by kernel_rfl) rfl (by decide) ?_
  clear HF HM; intro a w5 g5 HF HM
  refine from_op HF (i := 3) rfl rfl ?_
  refine e_storeAll HF HM (i := 0) (cs := #[vI 0, vI 0, vB 0, vB 0, vI 0, vI 0, vI 0, vI 0, vI 0, vQ 0, vI 0]) (ds := (b.evs.getD k Ev.zero).cells) rfl rfl rfl rfl ⟨(by kernel_rfl), (by kernel_rfl)⟩ rfl rfl (ev_one (b.evs.getD k Ev.zero)) rfl ?_
  clear HM; intro w4_3 HM
  refine from_done rfl ?_
  refine from_start ?_
  refine fp HF 1 0 [(22, vP g3 4)] ?_; clear HF; intro a HF
  refine fy HF HM 1 rfl rfl rfl (Yl.load1 rfl rfl (by kernel_rfl) (fun _ h => h.cell (i := 2) rfl rfl)) ?_; clear HF; intro a HF
  refine fy HF HM 2 rfl rfl rfl (v := .agg ((b.evs.getD k Ev.zero).cells)) (Yl.loadS rfl rfl ⟨(by kernel_rfl), (by kernel_rfl)⟩ rfl (fun _ h => range_of_block (h.blk (i := 0) rfl))) ?_; clear HF; intro a HF
  refine from_op HF (i := 3) rfl rfl ?_
  refine e_slice HF HM (vs := [(0, .agg ((b.evs.getD k Ev.zero).cells))]) (cs := (b.evs.getD k Ev.zero).cells) rfl ei_rev (by decide) rfl (by kernel_rfl) rfl (by decide) ?_
  clear HF HM; intro a w25 g25 HF HM
  refine from_op HF (i := 4) rfl rfl ?_
  refine e_append HF HM (i := 2) rfl ei_rev rfl rfl rfl (news := (evL (b.evs.getD k Ev.zero))) (HM.rdBlk (i := 0) (n := 1) (size := 11) rfl rfl) (ev_one _) (by omega) (by omega) rfl (by decide) ?_
  clear HF HM; intro a w26 A26 c26 HF HM hc26
  rw [show ((b.evs.take k).flatMap evL) ++ (evL (b.evs.getD k Ev.zero)) = (b.evs.take (k + 1)).flatMap evL from by rw [evTake_succ (by omega)]] at HM
  refine fp HF 1 5 [(27, vP g3 4)] ?_; clear HF; intro a HF
  refine from_op HF (i := 6) rfl rfl ?_
  refine e_store HF HM (i := 3) (cs := #[vB b.kind, vB b.cpu, vI b.lost, vI b.next, .slice Ak k ck]) rfl rfl rfl rfl (by kernel_rfl) rfl rfl (by simp) ?_
  clear HM; intro w5_6 HM
  refine from_done rfl ?_
  replace HM := HM.picks (fs' := [.blk g5 ((b.evs.getD k Ev.zero).cells) 46, .row (.slice A26 (k + 1) c26) (k + 1) ((b.evs.take (k + 1)).flatMap evL) 65 11, .blk g3 #[vB b.kind, vB b.cpu, vI b.lost, vI b.next, .slice A26 (k + 1) c26] 39, .blk g2 #[vB 0, vB 0, vI 0, vI 0, .slice none 0 0] 39, .blk g1 (b.cells (some ⟨gA, oA, none⟩) c) 27]) [1, 2, 3, 4, 5] (by decide) rfl
  refine from_start ?_
  refine fp HF 1 0 [(28, vI (IntKind.i64.wrap ((k : Int) + 1)))] ?_; clear HF; intro a HF
  replace HF := HF.as (t := 28) (u := vI (k + 1 : Nat)) rfl (i64_nat (by omega) (by omega))
  refine fp HF 1 1 [(18, vI (k + 1 : Nat))] ?_; clear HF; intro a HF
  refine from_done rfl ?_
  exact ⟨_, (by omega), k + 1, A26, c26, by omega, hc26, rfl, HF.sub (by kernel_rfl), HM.picks [1, 2, 3, 4] (by decide) rfl⟩
 ·have HF := HF.on 19 hb19
  have hd19 := of_decide_eq_false hb19
  have hkn : k = b.evs.length := by omega
  refine cond_false HF rfl (wp_exit (wp_seq (from_start ?_)))
  refine fy HF HM 0 rfl rfl rfl (v := .agg #[vB b.kind, vB b.cpu, vI b.lost, vI b.next, .slice Ak k ck]) (Yl.loadS rfl rfl si_rbk rfl (fun _ h => range_of_block (h.blk (i := 1) rfl))) ?_; clear HF; intro a HF
  refine from_op HF (i := 1) rfl rfl ?_
  refine e_storeAll HF HM (i := 2) (cs := #[vB 0, vB 0, vI 0, vI 0, .slice none 0 0]) (ds := #[vB b.kind, vB b.cpu, vI b.lost, vI b.next, .slice Ak k ck]) rfl rfl rfl rfl si_rbk rfl rfl (by simp [Value.oneCell']) rfl ?_
  clear HM; intro w7_1 HM
  refine from_done rfl ?_
  refine wp_ret ?_
  exact ret1 rfl HF (.cellS (i := 2) HF HM rfl rfl si_rbk rfl) (⟨⟨Ak, ck, by rw [hkn]; rfl, by have h := HM.own (i := 0) rfl; rw [hkn, List.take_length] at h; exact h, by omega⟩, HM.below⟩)
theorem lent_is10 (A : Option Addr) (n c : Nat) (l : List Nat) (w : World) (hr : Rd w w.heap.size 1 A n (l.map B8)) (hn : n ≤ 140737488351232) (hln : l.length = n) :
    Calls Tryd.prog 8 #[.slice A n c] w fun r w' => (∃ A c, r = .returned (.slice A n c) ∧ w'.ownsRow w.heap.size 5 1 (.slice A (n + 12) c) (n + 12) ((l ++ marks 12).map B8) ∧ n + 12 ≤ c) ∧ Below w.heap.size w w' := by
  have h := lent_any A n c l w hr hn hln
  unfold LentIs at h
  rwa [hln] at h
theorem rread10_is (A : Option Addr) (n cp : Nat) (l : List Nat) (w : World) (hr : Rd w w.heap.size 1 A n (l.map B8)) (hc : n ≤ cp) (hln : l.length = n) (hn : n ≤ 100000000) (hl : ∀ b ∈ l, b < 256) {b : Bk} {m er : Nat} (h : readB l = (b, m, er)) :
    Calls Tryd.prog 12 #[.slice A n cp] w fun r w' => (∃ A c, r = .returned (.tuple #[.agg (b.cells A c), .int .i64 (m : Int), .int .i64 (er : Int)]) ∧ w'.ownsRow w.heap.size 65 11 (.slice A b.evs.length c) b.evs.length (b.evs.flatMap evL) ∧ b.evs.length ≤ c) ∧ Below w.heap.size w w' := by
  have h1 := rread10_any A n cp l w hr hc hln hn hl
  rw [refB_eq hl, h] at h1
  exact h1
theorem same10_self (b : Bk) (A A2 : Option Addr) (c c2 : Nat) (w : World) (hr : Rd w w.heap.size 11 A b.evs.length (b.evs.flatMap evL)) (hr2 : Rd w w.heap.size 11 A2 b.evs.length (b.evs.flatMap evL)) (hn : b.evs.length ≤ 1000000) :
    Calls Tryd.prog 13 #[.agg (b.cells A c), .agg (b.cells A2 c2)] w (Is w (.bool true)) := by
  have h := same10_any b b A A2 c c2 w hr hr2 hn
  rwa [decide_eq_true rfl] at h
theorem readB_few {l : List Nat} (hl : ∀ x ∈ l, x < 256) {b : Bk} {m er : Nat} (h : readB l = (b, m, er)) : b.evs.length ≤ 1000000 := by
  rw [← refB_eq hl] at h
  unfold refB at h
  split at h
  · injection h with h; subst h; simp [Bk.zero]
  · split at h
    · rename_i b' hb
      injection h with h; subst h
      unfold refOf at hb
      split at hb
      · cases hb
      · split at hb
        · cases hb
        · split at hb
          · cases hb
          · split at hb
            · cases hb
            · split at hb
              · cases hb
              · injection hb with hb; subst hb; exact loose_few_evs _ _
    · injection h with h; subst h; simp [Bk.zero]
set_option maxRecDepth 100000 in
set_option maxHeartbeats 4000000 in
theorem reads10_walk (A : Option Addr) (n c : Nat) (l : List Nat) (b : Bk) (m er : Nat) (hq : readB l = (b, m, er)) (hbn : b.evs.length ≤ 1000000) (B : Nat) (w : World) (hL : LaidX B w) (hB : B ≤ w.heap.size) (hr : Rd w w.heap.size 1 A n (l.map B8)) (hc : n ≤ c) (hln : l.length = n) (hn : n ≤ 1000000) (hl : ∀ b ∈ l, b < 256) :
    Calls Tryd.prog 5 #[.slice A n c] w (Is w (.bool true)) := by
 refine calls_enter (vs := [.slice A n c]) Tryd.func5 rfl rfl (by kernel_rfl) (σ0 := [(0, .slice A n c)]) rfl ?_
 intro a HF
 have HM := Mem.start w
 refine wp_seq (from_start ?_)
 refine fp HF 1 0 [(2, .bool false)] ?_; clear HF; intro a HF
 refine from_done rfl ?_
 refine wp_seq (from_start ?_)
 refine fp HF 1 0 [(15, .slice A n c)] ?_; clear HF; intro a HF
 refine from_op HF (i := 1) rfl rfl ?_
 refine e_call HF (vs := [.slice A n c]) rfl (by kernel_rfl) (by kernel_rfl) rfl (by decide) (lent_is10 _ n _ l _ (HM.old hr) (by omega) hln) ?_
 rintro _ w16 ⟨⟨A16, c16, rfl, ho, hc16⟩, hbw⟩
 refine ⟨_, rfl, ?_⟩
 replace HM := HM.callRow hbw ho
 clear HF; intro a HF
 refine fp HF 1 2 [(3, .slice A16 n c16)] ?_; clear HF; intro a HF
 refine from_done rfl ?_
 refine wp_seq (from_start ?_)
 refine fp HF 1 0 [(18, .slice A16 n c16)] ?_; clear HF; intro a HF
 refine from_op HF (i := 1) rfl rfl ?_
 refine e_call HF (vs := [.slice A16 n c16]) rfl (by kernel_rfl) (by kernel_rfl) rfl (by decide) (length_any _ n _ l _ ((HM.rd (i := 0) rfl).pre hln (by omega)) hln (by omega) hl) ?_
 rintro _ w19 ⟨rfl, hbw⟩
 refine ⟨_, rfl, ?_⟩
 replace HM := HM.call hbw
 clear HF; intro a HF
 refine fp HF 5 2 [(5, vI ((lenR l).2)), (4, vI ((lenR l).1)), (21, vI ((lenR l).2)), (20, vI ((lenR l).1)), (17, .tuple #[vI ((lenR l).1), vI ((lenR l).2)])] ?_; clear HF; intro a HF
 refine from_done rfl ?_
 refine wp_seq (from_start ?_)
 refine fp HF 1 0 [(23, .slice A n c)] ?_; clear HF; intro a HF
 refine from_op HF (i := 1) rfl rfl ?_
 refine e_call HF (vs := [.slice A n c]) rfl (by kernel_rfl) (by kernel_rfl) rfl (by decide) (length10_any _ n _ l _ (HM.old hr) hln (by omega) hl) ?_
 rintro _ w24 ⟨rfl, hbw⟩
 refine ⟨_, rfl, ?_⟩
 replace HM := HM.call hbw
 clear HF; intro a HF
 refine fp HF 5 2 [(7, vI ((lenR l).2)), (6, vI ((lenR l).1)), (26, vI ((lenR l).2)), (25, vI ((lenR l).1)), (22, .tuple #[vI ((lenR l).1), vI ((lenR l).2)])] ?_; clear HF; intro a HF
 refine from_done rfl ?_
 refine wp_seq (from_start ?_)
 refine fp HF 1 0 [(28, .slice A16 n c16)] ?_; clear HF; intro a HF
 refine from_op HF (i := 1) rfl rfl ?_
 refine e_call HF (vs := [.slice A16 n c16]) rfl (by kernel_rfl) (by kernel_rfl) rfl (by decide) (bread_is _ n _ l B _ (hL.mem HM hB) (HM.le hB) ((HM.rd (i := 0) rfl).pre hln (by omega)) (by omega) hln (by omega) hl hq) ?_
 rintro _ w29 ⟨⟨A29, c29, rfl, ho, hc29⟩, hbw⟩
 refine ⟨_, rfl, ?_⟩
 replace HM := HM.callRow hbw ho
 clear HF; intro a HF
 refine fp HF 4 2 [(32, vI er), (31, vI m), (30, .agg (b.cells A29 c29)), (27, .tuple #[.agg (b.cells A29 c29), vI m, vI er])] ?_; clear HF; intro a HF
 refine from_op HF (i := 6) rfl rfl ?_
 refine e_alloc HF HM (cs := #[vB 0, vB 0, vI 0, vI 0, .slice none 0 0]) rfl (by kernel_rfl) rfl (by decide) ?_
 clear HF HM; intro a w8 g8 HF HM
 refine from_op HF (i := 7) rfl rfl ?_
 refine e_storeAll HF HM (i := 0) (cs := #[vB 0, vB 0, vI 0, vI 0, .slice none 0 0]) (ds := (b.cells A29 c29)) rfl rfl rfl rfl si_bk rfl rfl (bk_one _ _ _) rfl ?_
 clear HM; intro w4_7 HM
 refine fp HF 2 8 [(10, vI er), (9, vI m)] ?_; clear HF; intro a HF
 refine from_done rfl ?_
 replace HF := HF.to [(10, vI er), (9, vI m), (8, vP g8 0), (7, vI ((lenR l).2)), (6, vI ((lenR l).1)), (5, vI ((lenR l).2)), (4, vI ((lenR l).1)), (3, .slice A16 n c16), (2, .bool false), (0, .slice A n c)]
 refine wp_seq (from_start ?_)
 refine fp HF 1 0 [(34, .slice A n c)] ?_; clear HF; intro a HF
 refine from_op HF (i := 1) rfl rfl ?_
 refine e_call HF (vs := [.slice A n c]) rfl (by kernel_rfl) (by kernel_rfl) rfl (by decide) (rread10_is _ n _ l _ (HM.old hr) hc hln (by omega) hl hq) ?_
 rintro _ w35 ⟨⟨A35, c35, rfl, ho, hc35⟩, hbw⟩
 refine ⟨_, rfl, ?_⟩
 replace HM := HM.callRow hbw ho
 clear HF; intro a HF
 refine fp HF 4 2 [(38, vI er), (37, vI m), (36, .agg (b.cells A35 c35)), (33, .tuple #[.agg (b.cells A35 c35), vI m, vI er])] ?_; clear HF; intro a HF
 refine from_op HF (i := 6) rfl rfl ?_
 refine e_alloc HF HM (cs := #[vB 0, vB 0, vI 0, vI 0, .slice none 0 0]) rfl (by kernel_rfl) rfl (by decide) ?_
 clear HF HM; intro a w11 g11 HF HM
 refine from_op HF (i := 7) rfl rfl ?_
 refine e_storeAll HF HM (i := 0) (cs := #[vB 0, vB 0, vI 0, vI 0, .slice none 0 0]) (ds := (b.cells A35 c35)) rfl rfl rfl rfl si_rbk rfl rfl (bk_one _ _ _) rfl ?_
 clear HM; intro w5_7 HM
 refine fp HF 2 8 [(13, vI er), (12, vI m)] ?_; clear HF; intro a HF
 refine from_done rfl ?_
 refine wp_seq (wp_seq ?_)
 refine any_start (by kernel_rfl) (fun wS => Mem w wS [.blk g11 (b.cells A35 c35) 39, .row (.slice A35 b.evs.length c35) b.evs.length (b.evs.flatMap evL) 65 11, .blk g8 (b.cells A29 c29) 27, .row (.slice A29 b.evs.length c29) b.evs.length (b.evs.flatMap evL) 46 11, .row (.slice A16 (n + 12) c16) (n + 12) ((l ++ marks 12).map B8) 5 1]) [] ?_
 replace HM := HM.drew
 have HS := HM.picks (fs' := [.blk g11 (b.cells A35 c35) 39, .row (.slice A35 b.evs.length c35) b.evs.length (b.evs.flatMap evL) 65 11, .blk g8 (b.cells A29 c29) 27, .row (.slice A29 b.evs.length c29) b.evs.length (b.evs.flatMap evL) 46 11, .row (.slice A16 (n + 12) c16) (n + 12) ((l ++ marks 12).map B8) 5 1]) [0, 1, 2, 3, 4] (by decide) rfl
 refine ap HF (fun _ => HS) [0, 1] #[true, true, false, false, false, false, false, false, false, false, false, false, false, false, false, false, false, false, false, false, false, false, false, false, false] [(40, vI ((lenR l).1)), (39, vI ((lenR l).1))] ?_; clear HF; intro a HF
 refine any_pure HF (fun _ => HS) (i := 2) rfl rfl (d := 41) rfl (by decide) (by kernel_rfl) (fun _ _ _ h => h) (v := .bool (((lenR l).1 : Int) != ((lenR l).1 : Int))) (fun _ => Yl.pure (by kernel_rfl)) ?_; clear HF; intro a HF
 replace HF := HF.as (t := 41) (u := .bool false) rfl (by simp)
 refine ap HF (fun _ => HS) [3, 4, 5] #[true, true, true, true, true, true, false, false, false, false, false, false, false, false, false, false, false, false, false, false, false, false, false, false, false] [(44, vI ((lenR l).2)), (43, vI ((lenR l).2)), (42, .bool false)] ?_; clear HF; intro a HF
 refine any_pure HF (fun _ => HS) (i := 6) rfl rfl (d := 45) rfl (by decide) (by kernel_rfl) (fun _ _ _ h => h) (v := .bool (((lenR l).2 : Int) != ((lenR l).2 : Int))) (fun _ => Yl.pure (by kernel_rfl)) ?_; clear HF; intro a HF
 replace HF := HF.as (t := 45) (u := .bool false) rfl (by simp)
 refine ap HF (fun _ => HS) [7, 8, 9, 10] #[true, true, true, true, true, true, true, true, true, true, true, false, false, false, false, false, false, false, false, false, false, false, false, false, false] [(49, vI m), (48, vI m), (47, .bool false), (46, .bool false)] ?_; clear HF; intro a HF
 refine any_pure HF (fun _ => HS) (i := 11) rfl rfl (d := 50) rfl (by decide) (by kernel_rfl) (fun _ _ _ h => h) (v := .bool ((m : Int) != (m : Int))) (fun _ => Yl.pure (by kernel_rfl)) ?_; clear HF; intro a HF
 replace HF := HF.as (t := 50) (u := .bool false) rfl (by simp)
 refine ap HF (fun _ => HS) [12, 13, 14, 15] #[true, true, true, true, true, true, true, true, true, true, true, true, true, true, true, true, false, false, false, false, false, false, false, false, false] [(54, vI er), (53, vI er), (52, .bool false), (51, .bool false)] ?_; clear HF; intro a HF
 refine any_pure HF (fun _ => HS) (i := 16) rfl rfl (d := 55) rfl (by decide) (by kernel_rfl) (fun _ _ _ h => h) (v := .bool ((er : Int) != (er : Int))) (fun _ => Yl.pure (by kernel_rfl)) ?_; clear HF; intro a HF
 replace HF := HF.as (t := 55) (u := .bool false) rfl (by simp)
 refine ap HF (fun _ => HS) [17, 18] #[true, true, true, true, true, true, true, true, true, true, true, true, true, true, true, true, true, true, true, false, false, false, false, false, false] [(57, .bool false), (56, .bool false)] ?_; clear HF; intro a HF
 refine ay HF HS 19 rfl rfl rfl (v := .agg (b.cells A29 c29)) (Yl.loadS rfl rfl si_bk rfl (fun _ h => range_of_block (h.blk (i := 2) rfl))) ?_; clear HF; intro a HF
 refine ay HF HS 21 rfl rfl rfl (v := .agg (b.cells A35 c35)) (Yl.loadS rfl rfl si_rbk rfl (fun _ h => range_of_block (h.blk (i := 0) rfl))) ?_; clear HF; intro a HF
 refine any_all [20] (by kernel_rfl) rfl ?_
 refine all_cons ?_ all_nil
 refine any_op HF (i := 20) rfl rfl ?_
 refine e_call HF (vs := [.agg (b.cells A29 c29)]) rfl (by kernel_rfl) (by kernel_rfl) rfl (by decide) (turned10_any b A29 c29 _ (HM.rd (i := 3) rfl) hbn) ?_
 rintro _ w59 ⟨⟨A59, c59, rfl, ho, hc59⟩, hbw⟩
 refine ⟨_, rfl, ?_⟩
 replace HM := HM.callRow hbw ho
 clear HF; intro a HF
 refine keepS (HM.picks [1, 2, 3, 4, 5] (by decide) rfl) (fun HS => ?_)
 refine any_all [22] (by kernel_rfl) rfl ?_
 refine all_cons ?_ all_nil
 refine any_op HF (i := 22) rfl rfl ?_
 refine e_call HF (vs := [.agg (b.cells A59 c59), .agg (b.cells A35 c35)]) rfl (by kernel_rfl) (by kernel_rfl) rfl (by decide) (same10_self b A59 A35 c59 c35 _ (HM.rd (i := 0) rfl) (HM.rd (i := 2) rfl) hbn) ?_
 rintro _ w61 ⟨rfl, hbw⟩
 refine ⟨_, rfl, ?_⟩
 replace HM := HM.call hbw
 clear HF; intro a HF
 refine keepS (HM.picks [1, 2, 3, 4, 5] (by decide) rfl) (fun HS => ?_)
 refine ap HF (fun _ => HS) [23, 24] #[true, true, true, true, true, true, true, true, true, true, true, true, true, true, true, true, true, true, true, true, true, true, true, true, true] [(63, .bool false), (62, .bool false)] ?_; clear HF; intro a HF
 refine any_done (by kernel_rfl) ?_
 replace HF := HF.to [(63, .bool false), (11, vP g11 0), (8, vP g8 0), (3, .slice A16 n c16), (2, .bool false), (0, .slice A n c)]
 refine cond_false HF rfl (wp_skip (wp_seq (wp_seq (from_start ?_))))
 refine fp HF 1 0 [(64, vP g8 4)] ?_; clear HF; intro a HF
 refine fy HF HM 1 rfl rfl rfl (v := .slice A29 b.evs.length c29) (Yl.load1 rfl rfl (by kernel_rfl) (fun _ h => h.cell (i := 3) rfl (rfl))) ?_; clear HF; intro a HF
 refine fy HF HM 2 rfl rfl rfl (Yl.len rfl rfl (by kernel_rfl)) ?_; clear HF; intro a HF
 refine fp HF 1 3 [(67, vI 0)] ?_; clear HF; intro a HF
 refine from_done rfl ?_
 replace HM := HM.asRow (i := 4) (ys := (updUp spoilE b.evs 0).flatMap evL) rfl (by rw [updUp_zero])
 refine wp_block ?_
 refine loop_nat (fun mS aS wS => ∃ (k : Nat), (k ≤ b.evs.length) ∧ mS = b.evs.length - k ∧ Fr aS 79 [] [(67, vI k), (66, vI b.evs.length), (63, .bool false), (11, vP g11 0), (8, vP g8 0), (3, .slice A16 n c16), (2, .bool false), (0, .slice A n c)] ∧ Mem w wS [.row (.slice A59 b.evs.length c59) b.evs.length (b.evs.flatMap evL) 65 11, .blk g11 (b.cells A35 c35) 39, .row (.slice A35 b.evs.length c35) b.evs.length (b.evs.flatMap evL) 65 11, .blk g8 (b.cells A29 c29) 27, .row (.slice A29 b.evs.length c29) b.evs.length ((updUp spoilE b.evs k).flatMap evL) 46 11, .row (.slice A16 (n + 12) c16) (n + 12) ((l ++ marks 12).map B8) 5 1]) (m := b.evs.length - 0) ⟨0, Nat.zero_le _, rfl, HF.sub (by kernel_rfl), HM.picks [0, 1, 2, 3, 4, 5] (by decide) rfl⟩ ?_
 clear HF HM; rintro mS a w_ ⟨k, hk, rfl, HF, HM⟩
 refine wp_seq (from_start ?_)
 refine fp HF 1 0 [(68, .bool (decide ((k : Int) < (b.evs.length : Int))))] ?_; clear HF; intro a HF
 refine from_done rfl ?_
 refine wp_seq ?_
 rcases Bool.eq_false_or_eq_true (decide ((k : Int) < (b.evs.length : Int))) with hb68 | hb68
 ·have HF := HF.on 68 hb68
  have hd68 := of_decide_eq_true hb68
  have hk68 : k < b.evs.length := by omega
  refine cond_true HF rfl (wp_skip (wp_seq (wp_block (wp_seq (from_start ?_)))))
  refine fp HF 2 0 [(14, vI k), (69, vI k)] ?_; clear HF; intro a HF
  refine from_done rfl ?_
  refine from_start ?_
  refine fp HF 1 0 [(70, vP g8 4)] ?_; clear HF; intro a HF
  refine fy HF HM 1 rfl rfl rfl (v := .slice A29 b.evs.length c29) (Yl.load1 rfl rfl (by kernel_rfl) (fun _ h => h.cell (i := 3) rfl (rfl))) ?_; clear HF; intro a HF
  refine fp HF 1 2 [(72, vI k)] ?_; clear HF; intro a HF
  obtain ⟨gA29, rfl⟩ := own_some (HM.own (i := 4) rfl) (Nat.lt_of_le_of_lt (Nat.zero_le _) (show k < b.evs.length from by omega))
  refine fy HF HM 3 rfl rfl rfl (v := vP gA29 (k * 11)) ((Yl.indexAddr (ad := ⟨gA29, 0, none⟩) (y := k) (sz := 11) rfl rfl rfl (by omega) (by kernel_rfl)).as (by rw [Addr.add_mid, Nat.zero_add])) ?_; clear HF; intro a HF
  refine fp HF 1 4 [(74, vP gA29 (k * 11))] ?_; clear HF; intro a HF
  refine from_op HF (i := 5) rfl rfl ?_
  refine e_storeRow HF HM (i := 4) rfl rfl rfl rfl (by kernel_rfl) rfl rfl (by simp only [flat_len evL 11 evL_len, updUp_len]; omega) ?_
  clear HM; intro w11_5 HM
  replace HM := HM.asRow (i := 4) (ys := (updUp spoilE b.evs (k + 1)).flatMap evL) rfl ((putAt_cell evL 11 evL_len (updUp spoilE b.evs k) k (b.evs.getD k Ev.zero) (spoilE (b.evs.getD k Ev.zero)) (updUp_at spoilE b.evs Ev.zero hk68) 0 (by omega) (.int .i64 (-1)) (spoil_cell _)).trans (by rw [updUp_succ spoilE b.evs Ev.zero hk68]))
  refine from_done rfl ?_
  refine from_start ?_
  refine fp HF 1 0 [(75, vI (IntKind.i64.wrap ((k : Int) + 1)))] ?_; clear HF; intro a HF
  replace HF := HF.as (t := 75) (u := vI (k + 1 : Nat)) rfl (i64_nat (by omega) (by omega))
  refine fp HF 1 1 [(67, vI (k + 1 : Nat))] ?_; clear HF; intro a HF
  refine from_done rfl ?_
  exact ⟨_, (by omega), k + 1, by omega, rfl, HF.sub (by kernel_rfl), HM.picks [0, 1, 2, 3, 4, 5] (by decide) rfl⟩
 ·have HF := HF.on 68 hb68
  have hd68 := of_decide_eq_false hb68
  refine cond_false HF rfl (wp_exit (wp_seq (from_start ?_)))
  refine fp HF 2 0 [(77, .slice A n c), (76, .slice A16 n c16)] ?_; clear HF; intro a HF
  refine from_op HF (i := 2) rfl rfl ?_
  refine e_call HF (vs := [.slice A16 n c16, .slice A n c]) rfl (by kernel_rfl) (by kernel_rfl) rfl (by decide) (kept_any _ _ n _ _ l _ (HM.rd (i := 5) rfl) hc16 (HM.old hr) (by omega) hln) ?_
  rintro _ w78 ⟨rfl, hbw⟩
  refine ⟨_, rfl, ?_⟩
  replace HM := HM.call hbw
  clear HF; intro a HF
  refine fp HF 1 3 [(2, .bool true)] ?_; clear HF; intro a HF
  refine from_done rfl ?_
  refine wp_ret ?_
  exact ret1 rfl HF (.tmp HF rfl) (⟨rfl, HM.below⟩)
theorem reads10_any (A : Option Addr) (n c : Nat) (l : List Nat) (B : Nat) (w : World) (hL : LaidX B w) (hB : B ≤ w.heap.size) (hr : Rd w w.heap.size 1 A n (l.map B8)) (hc : n ≤ c) (hln : l.length = n) (hn : n ≤ 1000000) (hl : ∀ b ∈ l, b < 256) :
    Calls Tryd.prog 5 #[.slice A n c] w (Is w (.bool true)) :=
  reads10_walk A n c l _ _ _ rfl (readB_few (b := (readB l).1) (m := (readB l).2.1) (er := (readB l).2.2) hl rfl) B w hL hB hr hc hln hn hl
set_option maxRecDepth 100000 in
set_option maxHeartbeats 4000000 in
theorem blockReads_any (A : Option Addr) (n c : Nat) (l : List Nat) (B : Nat) (w : World) (hL : LaidX B w) (hB : B ≤ w.heap.size) (hr : Rd w w.heap.size 1 A n (l.map B8)) (hc : n ≤ c) (hln : l.length = n) (hl : ∀ b ∈ l, b < 256) :
    Calls Tryd.prog 3 #[.slice A n c] w (Is w (.bool true)) := by
 refine calls_enter (vs := [.slice A n c]) Tryd.func3 rfl rfl (by kernel_rfl) (σ0 := [(0, .slice A n c)]) rfl ?_
 intro a HF
 have HM := Mem.start w
 refine wp_seq (from_start ?_)
 refine fp HF 1 0 [(2, .bool false)] ?_; clear HF; intro a HF
 refine from_done rfl ?_
 refine wp_seq (from_start ?_)
 refine fp HF 1 0 [(3, .slice A n c)] ?_; clear HF; intro a HF
 refine fy HF HM 1 rfl rfl rfl (Yl.len rfl rfl (by kernel_rfl)) ?_; clear HF; intro a HF
 refine fp HF 2 2 [(6, .bool (decide ((n : Int) > (4100 : Int)))), (5, .bool (decide ((n : Int) > (4100 : Int))))] ?_; clear HF; intro a HF
 rcases Bool.eq_false_or_eq_true (decide ((n : Int) > (4100 : Int))) with hb6 | hb6
 ·have HF := HF.on 6 hb6
  have hd6 := of_decide_eq_true hb6
  refine fp HF 4 4 [(10, .bool true), (9, .bool true), (8, undef), (7, undef)] ?_; clear HF; intro a HF
  refine from_op HF (i := 8) rfl rfl ?_
  refine e_call HF (vs := []) rfl (by kernel_rfl) (by kernel_rfl) rfl (by decide) (bawake_any B _ (hL.mem HM hB) (HM.le hB)) ?_
  rintro _ w11 ⟨rfl, hbw⟩
  refine ⟨_, rfl, ?_⟩
  replace HM := HM.call hbw
  clear HF; intro a HF
  refine fp HF 2 9 [(2, .bool true), (12, .bool true)] ?_; clear HF; intro a HF
  refine from_done rfl ?_
  refine wp_ret ?_
  exact ret1 rfl HF (.tmp HF rfl) (⟨rfl, HM.below⟩)
 ·have HF := HF.on 6 hb6
  have hd6 := of_decide_eq_false hb6
  refine fp HF 1 4 [(7, .slice A n c)] ?_; clear HF; intro a HF
  refine from_op HF (i := 5) rfl rfl ?_
  refine e_call HF (vs := [.slice A n c]) rfl (by kernel_rfl) (by kernel_rfl) rfl (by decide) (reads10_any A n c l B _ (hL.mem HM hB) (HM.le hB) (HM.old hr) hc hln (by omega) hl) ?_
  rintro _ w8 ⟨rfl, hbw⟩
  refine ⟨_, rfl, ?_⟩
  replace HM := HM.call hbw
  clear HF; intro a HF
  refine fp HF 2 6 [(10, .bool true), (9, .bool true)] ?_; clear HF; intro a HF
  refine from_op HF (i := 8) rfl rfl ?_
  refine e_call HF (vs := []) rfl (by kernel_rfl) (by kernel_rfl) rfl (by decide) (bawake_any B _ (hL.mem HM hB) (HM.le hB)) ?_
  rintro _ w11 ⟨rfl, hbw⟩
  refine ⟨_, rfl, ?_⟩
  replace HM := HM.call hbw
  clear HF; intro a HF
  refine fp HF 2 9 [(2, .bool true), (12, .bool true)] ?_; clear HF; intro a HF
  refine from_done rfl ?_
  refine wp_ret ?_
  exact ret1 rfl HF (.tmp HF rfl) (⟨rfl, HM.below⟩)
end Go.Proofs.YtnakabnmjnfpcaaDoor

