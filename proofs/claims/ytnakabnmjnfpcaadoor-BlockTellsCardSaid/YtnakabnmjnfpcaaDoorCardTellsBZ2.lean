/- Texts laid together: Blk2W, BlkT, BlkU, Blk3W, Blk4W, Blk5W, BlkV, BlkF, DoorBk, Aw10W, FillW. -/
import Derived.Test.YtnakabnmjnfpcaaDoorCardTellsBQBlkR
import Derived.Test.YtnakabnmjnfpcaaDoorCardTellsBZ1
set_option linter.all false
namespace Go.Proofs.YtnakabnmjnfpcaaDoor
open Go.RowKit
set_option maxRecDepth 100000 in
set_option maxHeartbeats 4000000 in
theorem fits1_any (g : Nat) (b : Bk) (hok : b.Ok) (A : Option Addr) (c B : Nat) (w : World) (hL : LaidX B w) (hB : B ≤ w.heap.size) (hr : Rd w w.heap.size 11 A b.evs.length (b.evs.flatMap evL)) (hn : b.evs.length ≤ 1000000) (hb : w.heap[g]? = some (.cells (b.cells A c) 27 (0, 0))) :
    Calls Tryd.prog 52 #[.pointer (some ⟨g, 0, none⟩)] w (Is w (.bool b.fitsE)) := by
 refine calls_enter (vs := [vP g 0]) Tryd.func52 rfl rfl (by kernel_rfl) (σ0 := [(0, vP g 0)]) rfl ?_
 intro a HF
 have HM := Mem.start w
 refine wp_seq (from_start ?_)
 refine fp HF 1 0 [(1, .bool false)] ?_; clear HF; intro a HF
 refine from_done rfl ?_
 refine wp_seq (wp_seq (from_start ?_))
 refine fp HF 1 0 [(5, vP g 4)] ?_; clear HF; intro a HF
 refine fy HF HM 1 rfl rfl rfl (v := .slice A b.evs.length c) (Yl.load1 rfl rfl (by kernel_rfl) (fun _ h => h.oldCell hb rfl)) ?_; clear HF; intro a HF
 refine from_op HF (i := 2) rfl rfl ?_
 refine e_call HF (vs := [.slice A b.evs.length c]) rfl (by kernel_rfl) (by kernel_rfl) rfl (by decide) (row_is A b.evs.length c b.evs hok.evs B _ (hL.mem HM hB).laid (HM.le hB) (HM.old hr) (by omega) (i := (rowR b.evs).1) (er := (rowR b.evs).2) rfl) ?_
 rintro _ w7 ⟨rfl, hbw⟩
 refine ⟨_, rfl, ?_⟩
 replace HM := HM.call hbw
 clear HF; intro a HF
 refine fp HF 5 3 [(3, vI ((rowR b.evs).2)), (2, vI ((rowR b.evs).1)), (9, vI ((rowR b.evs).2)), (8, vI ((rowR b.evs).1)), (4, .tuple #[vI ((rowR b.evs).1), vI ((rowR b.evs).2)])] ?_; clear HF; intro a HF
 refine from_done rfl ?_
 refine wp_seq (from_start ?_)
 refine fp HF 3 0 [(12, .bool (((rowR b.evs).2 : Int) != (0 : Int))), (11, .bool (((rowR b.evs).2 : Int) != (0 : Int))), (10, vI ((rowR b.evs).2))] ?_; clear HF; intro a HF
 rcases Bool.eq_false_or_eq_true (((rowR b.evs).2 : Int) != (0 : Int)) with hb12 | hb12
 ·have HF := HF.on 12 hb12
  have hd12 := bne_iff_ne.1 hb12
  refine fp HF 19 3 [(31, .bool true), (30, undef), (29, undef), (28, undef), (27, .bool true), (26, .bool true), (25, undef), (24, undef), (23, undef), (22, .bool true), (21, .bool true), (20, undef), (19, undef), (18, undef), (17, .bool true), (16, .bool true), (15, undef), (14, undef), (13, undef)] ?_; clear HF; intro a HF
  refine from_done rfl ?_
  replace HF := HF.to [(31, .bool true), (1, .bool false), (0, vP g 0)]
  refine cond_true HF rfl (wp_seq (from_start ?_))
  refine fp HF 1 0 [(1, .bool false)] ?_; clear HF; intro a HF
  refine from_done rfl ?_
  refine wp_ret ?_
  exact ret1 rfl HF (.tmp HF rfl) (⟨by rw [show b.fitsE = false from decide_eq_false (by omega)], HM.below⟩)
 ·have HF := HF.on 12 hb12
  have hd12 := bne_eq_false_iff_eq.1 hb12
  refine fp HF 1 3 [(13, vP g 1)] ?_; clear HF; intro a HF
  refine fy HF HM 4 rfl rfl rfl (v := vB b.cpu) (Yl.load1 rfl rfl (by kernel_rfl) (fun _ h => h.oldCell hb rfl)) ?_; clear HF; intro a HF
  refine fp HF 3 5 [(17, .bool (decide ((b.cpu : Int) ≥ (64 : Int)))), (16, .bool (decide ((b.cpu : Int) ≥ (64 : Int)))), (15, .bool (decide ((b.cpu : Int) ≥ (64 : Int))))] ?_; clear HF; intro a HF
  rcases Bool.eq_false_or_eq_true (decide ((b.cpu : Int) ≥ (64 : Int))) with hb17 | hb17
  ·have HF := HF.on 17 hb17
   have hd17 := of_decide_eq_true hb17
   refine fp HF 14 8 [(31, .bool true), (30, undef), (29, undef), (28, undef), (27, .bool true), (26, .bool true), (25, undef), (24, undef), (23, undef), (22, .bool true), (21, .bool true), (20, undef), (19, undef), (18, undef)] ?_; clear HF; intro a HF
   refine from_done rfl ?_
   replace HF := HF.to [(31, .bool true), (1, .bool false), (0, vP g 0)]
   refine cond_true HF rfl (wp_seq (from_start ?_))
   refine fp HF 1 0 [(1, .bool false)] ?_; clear HF; intro a HF
   refine from_done rfl ?_
   refine wp_ret ?_
   exact ret1 rfl HF (.tmp HF rfl) (⟨by rw [show b.fitsE = false from decide_eq_false (by omega)], HM.below⟩)
  ·have HF := HF.on 17 hb17
   have hd17 := of_decide_eq_false hb17
   refine fp HF 1 8 [(18, vP g 2)] ?_; clear HF; intro a HF
   refine fy HF HM 9 rfl rfl rfl (v := vI b.lost) (Yl.load1 rfl rfl (by kernel_rfl) (fun _ h => h.oldCell hb rfl)) ?_; clear HF; intro a HF
   refine fp HF 3 10 [(22, .bool (decide ((b.lost : Int) < (0 : Int)))), (21, .bool (decide ((b.lost : Int) < (0 : Int)))), (20, .bool (decide ((b.lost : Int) < (0 : Int))))] ?_; clear HF; intro a HF
   rcases Bool.eq_false_or_eq_true (decide ((b.lost : Int) < (0 : Int))) with hb22 | hb22
   ·have HF := HF.on 22 hb22
    have hd22 := of_decide_eq_true hb22
    refine fp HF 9 13 [(31, .bool true), (30, undef), (29, undef), (28, undef), (27, .bool true), (26, .bool true), (25, undef), (24, undef), (23, undef)] ?_; clear HF; intro a HF
    refine from_done rfl ?_
    replace HF := HF.to [(31, .bool true), (1, .bool false), (0, vP g 0)]
    refine cond_true HF rfl (wp_seq (from_start ?_))
    refine fp HF 1 0 [(1, .bool false)] ?_; clear HF; intro a HF
    refine from_done rfl ?_
    refine wp_ret ?_
    exact ret1 rfl HF (.tmp HF rfl) (⟨by rw [show b.fitsE = false from decide_eq_false (by omega)], HM.below⟩)
   ·have HF := HF.on 22 hb22
    have hd22 := of_decide_eq_false hb22
    refine fp HF 1 13 [(23, vP g 2)] ?_; clear HF; intro a HF
    refine fy HF HM 14 rfl rfl rfl (v := vI b.lost) (Yl.load1 rfl rfl (by kernel_rfl) (fun _ h => h.oldCell hb rfl)) ?_; clear HF; intro a HF
    refine fp HF 3 15 [(27, .bool (decide ((b.lost : Int) > (281474976710656 : Int)))), (26, .bool (decide ((b.lost : Int) > (281474976710656 : Int)))), (25, .bool (decide ((b.lost : Int) > (281474976710656 : Int))))] ?_; clear HF; intro a HF
    rcases Bool.eq_false_or_eq_true (decide ((b.lost : Int) > (281474976710656 : Int))) with hb27 | hb27
    ·have HF := HF.on 27 hb27
     have hd27 := of_decide_eq_true hb27
     refine fp HF 4 18 [(31, .bool true), (30, undef), (29, undef), (28, undef)] ?_; clear HF; intro a HF
     refine from_done rfl ?_
     replace HF := HF.to [(31, .bool true), (1, .bool false), (0, vP g 0)]
     refine cond_true HF rfl (wp_seq (from_start ?_))
     refine fp HF 1 0 [(1, .bool false)] ?_; clear HF; intro a HF
     refine from_done rfl ?_
     refine wp_ret ?_
     exact ret1 rfl HF (.tmp HF rfl) (⟨by rw [show b.fitsE = false from decide_eq_false (by omega)], HM.below⟩)
    ·have HF := HF.on 27 hb27
     have hd27 := of_decide_eq_false hb27
     refine fp HF 1 18 [(28, vP g 3)] ?_; clear HF; intro a HF
     refine fy HF HM 19 rfl rfl rfl (v := vI b.next) (Yl.load1 rfl rfl (by kernel_rfl) (fun _ h => h.oldCell hb rfl)) ?_; clear HF; intro a HF
     refine fp HF 2 20 [(31, .bool ((b.next : Int) != (0 : Int))), (30, .bool ((b.next : Int) != (0 : Int)))] ?_; clear HF; intro a HF
     refine from_done rfl ?_
     replace HF := HF.to [(31, .bool ((b.next : Int) != (0 : Int))), (1, .bool false), (0, vP g 0)]
     rcases Bool.eq_false_or_eq_true ((b.next : Int) != (0 : Int)) with hb31 | hb31
     ·have HF := HF.on 31 hb31
      have hd31 := bne_iff_ne.1 hb31
      refine cond_true HF rfl (wp_seq (from_start ?_))
      refine fp HF 1 0 [(1, .bool false)] ?_; clear HF; intro a HF
      refine from_done rfl ?_
      refine wp_ret ?_
      exact ret1 rfl HF (.tmp HF rfl) (⟨by rw [show b.fitsE = false from decide_eq_false (by omega)], HM.below⟩)
     ·have HF := HF.on 31 hb31
      have hd31 := bne_eq_false_iff_eq.1 hb31
      refine cond_false HF rfl (wp_skip (wp_seq (wp_seq (from_start ?_))))
      refine fp HF 1 0 [(32, vP g 4)] ?_; clear HF; intro a HF
      refine fy HF HM 1 rfl rfl rfl (v := .slice A b.evs.length c) (Yl.load1 rfl rfl (by kernel_rfl) (fun _ h => h.oldCell hb rfl)) ?_; clear HF; intro a HF
      refine fy HF HM 2 rfl rfl rfl (Yl.len rfl rfl (by kernel_rfl)) ?_; clear HF; intro a HF
      refine fp HF 1 3 [(35, .bool ((b.evs.length : Int) == (0 : Int)))] ?_; clear HF; intro a HF
      refine from_done rfl ?_
      rcases Bool.eq_false_or_eq_true ((b.evs.length : Int) == (0 : Int)) with hb35 | hb35
      ·have HF := HF.on 35 hb35
       have hd35 := eq_of_beq hb35
       refine cond_true HF rfl (wp_seq (from_start ?_))
       refine fp HF 1 0 [(36, vP g 2)] ?_; clear HF; intro a HF
       refine fy HF HM 1 rfl rfl rfl (v := vI b.lost) (Yl.load1 rfl rfl (by kernel_rfl) (fun _ h => h.oldCell hb rfl)) ?_; clear HF; intro a HF
       refine fp HF 2 2 [(1, .bool (decide ((b.lost : Int) > (0 : Int)))), (38, .bool (decide ((b.lost : Int) > (0 : Int))))] ?_; clear HF; intro a HF
       refine from_done rfl ?_
       refine wp_ret ?_
       exact ret1 rfl HF (.tmp HF rfl) (⟨by rw [Bool.eq_iff_iff.2 (show (decide ((b.lost : Int) > (0 : Int))) = true ↔ b.fitsE = true by unfold Bk.fitsE; rw [headOk_nil (by omega)]; simp only [decide_eq_true_eq, beq_iff_eq]; omega)], HM.below⟩)
      ·have HF := HF.on 35 hb35
       have hd35 := ne_of_beq_false hb35
       refine cond_false HF rfl (wp_skip (wp_seq ?_))
       refine any_start (by kernel_rfl) (fun wS => Mem w wS []) [] ?_
       replace HM := HM.drew
       have HS := HM.picks (fs' := []) [] (by decide) rfl
       refine ap HF (fun _ => HS) [0, 5] #[true, false, false, false, false, true, false, false, false] [(44, vP g 1), (39, vP g 4)] ?_; clear HF; intro a HF
       refine ay HF HS 1 rfl rfl rfl (v := .slice A b.evs.length c) (Yl.load1 rfl rfl (by kernel_rfl) (fun _ h => h.oldCell hb rfl)) ?_; clear HF; intro a HF
       obtain ⟨gA, oA, rfl, _⟩ := hr.some_at (Nat.lt_of_le_of_lt (Nat.zero_le _) (show 0 < b.evs.length from by omega)) (by decide)
       refine ay HF HS 2 rfl rfl rfl (v := vP gA oA) (Yl.indexAddr (ad := ⟨gA, oA, none⟩) (y := 0) (sz := 11) rfl rfl rfl (by omega) (by kernel_rfl)) ?_; clear HF; intro a HF
       refine ap HF (fun _ => HS) [3] #[true, true, true, true, false, true, false, false, false] [(42, vP gA (oA + 2))] ?_; clear HF; intro a HF
       refine ay HF HS 4 rfl rfl rfl (v := vB ((b.evs.getD 0 Ev.zero).cpu)) (Yl.load1 rfl rfl (by kernel_rfl) (fun _ h => (h.old hr).partAt evL_len (k := 0) (j := 2) (x := (b.evs.getD 0 Ev.zero)) ((getD_at Ev.zero (k := 0) (by first | omega | (simp; omega)))) rfl)) ?_; clear HF; intro a HF
       refine ay HF HS 6 rfl rfl rfl (v := vB b.cpu) (Yl.load1 rfl rfl (by kernel_rfl) (fun _ h => h.oldCell hb rfl)) ?_; clear HF; intro a HF
       refine ap HF (fun _ => HS) [7, 8] #[true, true, true, true, true, true, true, true, true] [(1, .bool (((b.evs.getD 0 Ev.zero).cpu : Int) == (b.cpu : Int))), (46, .bool (((b.evs.getD 0 Ev.zero).cpu : Int) == (b.cpu : Int)))] ?_; clear HF; intro a HF
       refine any_done (by kernel_rfl) ?_
       refine wp_ret ?_
       exact ret1 rfl HF (.tmp HF rfl) (⟨by rw [Bool.eq_iff_iff.2 (show (((b.evs.getD 0 Ev.zero).cpu : Int) == (b.cpu : Int)) = true ↔ b.fitsE = true by unfold Bk.fitsE; rw [headOk_cons (by omega)]; simp only [decide_eq_true_eq, beq_iff_eq]; omega)], HM.below⟩)
set_option maxRecDepth 100000 in
set_option maxHeartbeats 4000000 in
theorem fits2_any (g : Nat) (b : Bk) (A : Option Addr) (c : Nat) (w : World) (hb : w.heap[g]? = some (.cells (b.cells A c) 27 (0, 0))) :
    Calls Tryd.prog 54 #[.pointer (some ⟨g, 0, none⟩)] w (Is w (.bool b.fitsN)) := by
 refine calls_enter (vs := [vP g 0]) Tryd.func54 rfl rfl (by kernel_rfl) (σ0 := [(0, vP g 0)]) rfl ?_
 intro a HF
 have HM := Mem.start w
 refine wp_seq (from_start ?_)
 refine fp HF 1 0 [(1, .bool false)] ?_; clear HF; intro a HF
 refine from_done rfl ?_
 refine wp_seq (from_start ?_)
 refine fp HF 1 0 [(2, vP g 3)] ?_; clear HF; intro a HF
 refine fy HF HM 1 rfl rfl rfl (v := vI b.next) (Yl.load1 rfl rfl (by kernel_rfl) (fun _ h => h.oldCell hb rfl)) ?_; clear HF; intro a HF
 refine fp HF 2 2 [(5, .bool (decide ((b.next : Int) ≥ (1 : Int)))), (4, .bool (decide ((b.next : Int) ≥ (1 : Int))))] ?_; clear HF; intro a HF
 rcases Bool.eq_false_or_eq_true (decide ((b.next : Int) ≥ (1 : Int))) with hb5 | hb5
 ·have HF := HF.on 5 hb5
  have hd5 := of_decide_eq_true hb5
  refine fp HF 1 4 [(6, vP g 3)] ?_; clear HF; intro a HF
  refine fy HF HM 5 rfl rfl rfl (v := vI b.next) (Yl.load1 rfl rfl (by kernel_rfl) (fun _ h => h.oldCell hb rfl)) ?_; clear HF; intro a HF
  refine fp HF 3 6 [(10, .bool (decide ((b.next : Int) ≤ (281474976710657 : Int)))), (9, .bool (decide ((b.next : Int) ≤ (281474976710657 : Int)))), (8, .bool (decide ((b.next : Int) ≤ (281474976710657 : Int))))] ?_; clear HF; intro a HF
  rcases Bool.eq_false_or_eq_true (decide ((b.next : Int) ≤ (281474976710657 : Int))) with hb10 | hb10
  ·have HF := HF.on 10 hb10
   have hd10 := of_decide_eq_true hb10
   refine fp HF 1 9 [(11, vP g 1)] ?_; clear HF; intro a HF
   refine fy HF HM 10 rfl rfl rfl (v := vB b.cpu) (Yl.load1 rfl rfl (by kernel_rfl) (fun _ h => h.oldCell hb rfl)) ?_; clear HF; intro a HF
   refine fp HF 3 11 [(15, .bool ((b.cpu : Int) == (0 : Int))), (14, .bool ((b.cpu : Int) == (0 : Int))), (13, .bool ((b.cpu : Int) == (0 : Int)))] ?_; clear HF; intro a HF
   rcases Bool.eq_false_or_eq_true ((b.cpu : Int) == (0 : Int)) with hb15 | hb15
   ·have HF := HF.on 15 hb15
    have hd15 := eq_of_beq hb15
    refine fp HF 1 14 [(16, vP g 2)] ?_; clear HF; intro a HF
    refine fy HF HM 15 rfl rfl rfl (v := vI b.lost) (Yl.load1 rfl rfl (by kernel_rfl) (fun _ h => h.oldCell hb rfl)) ?_; clear HF; intro a HF
    refine fp HF 3 16 [(20, .bool ((b.lost : Int) == (0 : Int))), (19, .bool ((b.lost : Int) == (0 : Int))), (18, .bool ((b.lost : Int) == (0 : Int)))] ?_; clear HF; intro a HF
    rcases Bool.eq_false_or_eq_true ((b.lost : Int) == (0 : Int)) with hb20 | hb20
    ·have HF := HF.on 20 hb20
     have hd20 := eq_of_beq hb20
     refine fp HF 1 19 [(21, vP g 4)] ?_; clear HF; intro a HF
     refine fy HF HM 20 rfl rfl rfl (v := .slice A b.evs.length c) (Yl.load1 rfl rfl (by kernel_rfl) (fun _ h => h.oldCell hb rfl)) ?_; clear HF; intro a HF
     refine fy HF HM 21 rfl rfl rfl (Yl.len rfl rfl (by kernel_rfl)) ?_; clear HF; intro a HF
     refine fp HF 3 22 [(1, .bool ((b.evs.length : Int) == (0 : Int))), (25, .bool ((b.evs.length : Int) == (0 : Int))), (24, .bool ((b.evs.length : Int) == (0 : Int)))] ?_; clear HF; intro a HF
     refine from_done rfl ?_
     replace HF := HF.to [(1, .bool ((b.evs.length : Int) == (0 : Int)))]
     refine wp_ret ?_
     exact ret1 rfl HF (.tmp HF rfl) (⟨by rw [Bool.eq_iff_iff.2 (show ((b.evs.length : Int) == (0 : Int)) = true ↔ b.fitsN = true by unfold Bk.fitsN; simp only [decide_eq_true_eq, beq_iff_eq]; omega)], HM.below⟩)
    ·have HF := HF.on 20 hb20
     have hd20 := ne_of_beq_false hb20
     refine fp HF 6 19 [(1, .bool false), (25, .bool false), (24, undef), (23, undef), (22, undef), (21, undef)] ?_; clear HF; intro a HF
     refine from_done rfl ?_
     replace HF := HF.to [(1, .bool false)]
     refine wp_ret ?_
     exact ret1 rfl HF (.tmp HF rfl) (⟨by rw [show b.fitsN = false from decide_eq_false (by omega)], HM.below⟩)
   ·have HF := HF.on 15 hb15
    have hd15 := ne_of_beq_false hb15
    refine fp HF 11 14 [(1, .bool false), (25, .bool false), (24, undef), (23, undef), (22, undef), (21, undef), (20, .bool false), (19, .bool false), (18, undef), (17, undef), (16, undef)] ?_; clear HF; intro a HF
    refine from_done rfl ?_
    replace HF := HF.to [(1, .bool false)]
    refine wp_ret ?_
    exact ret1 rfl HF (.tmp HF rfl) (⟨by rw [show b.fitsN = false from decide_eq_false (by omega)], HM.below⟩)
  ·have HF := HF.on 10 hb10
   have hd10 := of_decide_eq_false hb10
   refine fp HF 16 9 [(1, .bool false), (25, .bool false), (24, undef), (23, undef), (22, undef), (21, undef), (20, .bool false), (19, .bool false), (18, undef), (17, undef), (16, undef), (15, .bool false), (14, .bool false), (13, undef), (12, undef), (11, undef)] ?_; clear HF; intro a HF
   refine from_done rfl ?_
   replace HF := HF.to [(1, .bool false)]
   refine wp_ret ?_
   exact ret1 rfl HF (.tmp HF rfl) (⟨by rw [show b.fitsN = false from decide_eq_false (by omega)], HM.below⟩)
 ·have HF := HF.on 5 hb5
  have hd5 := of_decide_eq_false hb5
  refine fp HF 21 4 [(1, .bool false), (25, .bool false), (24, undef), (23, undef), (22, undef), (21, undef), (20, .bool false), (19, .bool false), (18, undef), (17, undef), (16, undef), (15, .bool false), (14, .bool false), (13, undef), (12, undef), (11, undef), (10, .bool false), (9, .bool false), (8, undef), (7, undef), (6, undef)] ?_; clear HF; intro a HF
  refine from_done rfl ?_
  replace HF := HF.to [(1, .bool false)]
  refine wp_ret ?_
  exact ret1 rfl HF (.tmp HF rfl) (⟨by rw [show b.fitsN = false from decide_eq_false (by omega)], HM.below⟩)
set_option maxRecDepth 100000 in
set_option maxHeartbeats 4000000 in
theorem fits_any (b : Bk) (hok : b.Ok) (A : Option Addr) (c B : Nat) (w : World) (hL : LaidX B w) (hB : B ≤ w.heap.size) (hr : Rd w w.heap.size 11 A b.evs.length (b.evs.flatMap evL)) (hn : b.evs.length ≤ 1000000) :
    Calls Tryd.prog 32 #[.agg (b.cells A c)] w (Is w (.bool b.fits)) := by
 refine calls_enter (vs := [.agg (b.cells A c)]) Tryd.func32 rfl rfl (by kernel_rfl) (σ0 := [(0, .agg (b.cells A c))]) rfl ?_
 intro a HF
 have HM := Mem.start w
 refine wp_seq (from_start ?_)
 refine from_op HF (i := 0) rfl rfl ?_
 refine e_box HF HM (cs := (b.cells A c)) rfl rfl rfl rfl (by decide) ?_
 clear HF HM; intro a w1 g1 HF HM
 refine fp HF 1 1 [(2, .bool false)] ?_; clear HF; intro a HF
 refine from_done rfl ?_
 refine wp_seq (from_start ?_)
 refine from_op HF (i := 0) rfl rfl ?_
 refine e_makeMap HF HM rfl rfl (by decide) ?_
 clear HF HM; intro a w5 g5 HF HM
 refine fy HF HM 1 rfl rfl rfl (v := .func (.func 52) #[] #[vP g1 0]) (Yl.makeFunc (fst := []) (caps := [vP g1 0]) rfl rfl rfl) ?_; clear HF; intro a HF
 refine from_op HF (i := 2) rfl rfl ?_
 refine e_mapNew HF HM (i := 0) (kt := 5) (et := 24) (kd := .int .u8) (Or.inr rfl) rfl (by kernel_rfl) (by kernel_rfl) rfl rfl rfl rfl (by first | trivial | rfl) (rfl) ?_
 clear HM; intro w1_2 HM
 refine fy HF HM 3 rfl rfl rfl (v := .func (.func 54) #[] #[vP g1 0]) (Yl.makeFunc (fst := []) (caps := [vP g1 0]) rfl rfl rfl) ?_; clear HF; intro a HF
 refine from_op HF (i := 4) rfl rfl ?_
 refine e_mapNew HF HM (i := 0) (kt := 5) (et := 24) (kd := .int .u8) (Or.inr rfl) rfl (by kernel_rfl) (by kernel_rfl) rfl rfl rfl rfl (by first | trivial | rfl) (rfl) ?_
 clear HM; intro w1_4 HM
 refine fp HF 2 5 [(3, .map (some g5)), (8, .map (some g5))] ?_; clear HF; intro a HF
 refine from_done rfl ?_
 rcases kinds3 b.kind with hk | hk | ⟨hk, hk2⟩
 ·
  refine wp_seq (from_start ?_)
  refine fp HF 2 0 [(10, vP g1 0), (9, .map (some g5))] ?_; clear HF; intro a HF
  refine fy HF HM 2 rfl rfl rfl (v := vB b.kind) (Yl.load1 rfl rfl (by kernel_rfl) (fun _ h => h.cell (i := 1) rfl (rfl))) ?_; clear HF; intro a HF
  refine fy HF HM 3 rfl rfl rfl (v := .func (.func 52) #[] #[vP g1 0]) (Yl.lookupHas (kt := 5) (et := 24) (kd := .int .u8) (j := 0) (es := (#[].push { key := vB 1, val := .func (.func 52) #[] #[vP g1 0], born := 0 }).push { key := vB 2, val := .func (.func 54) #[] #[vP g1 0], born := 0 + 1 }) (clock := 0 + 1 + 1) rfl (by kernel_rfl) (by kernel_rfl) rfl rfl (fun _ h => h.objAt (i := 0) rfl) (by first | trivial | rfl) (by rw [hk]; rfl)) ?_; clear HF; intro a HF
  refine fp HF 1 4 [(4, .func (.func 52) #[] #[vP g1 0])] ?_; clear HF; intro a HF
  refine from_done rfl ?_
  replace HM := HM.picks (fs' := [.blk g1 (b.cells A c) 27]) [1] (by decide) rfl
  refine wp_seq (from_start ?_)
  refine fp HF 1 0 [(13, .func (.func 52) #[] #[vP g1 0])] ?_; clear HF; intro a HF
  refine fy HF HM 1 rfl rfl rfl (v := .bool true) (Yl.neqFunc rfl rfl rfl (by kernel_rfl)) ?_; clear HF; intro a HF
  refine fp HF 2 2 [(16, .func (.func 52) #[] #[vP g1 0]), (15, .bool true)] ?_; clear HF; intro a HF
  refine from_op HF (i := 4) rfl rfl ?_
  refine e_callv HF (f := 52) (vs := []) (fst := []) (caps := [vP g1 0]) rfl rfl rfl (by kernel_rfl) rfl (by decide) (fits1_any _ b hok A c B _ (hL.mem HM hB) (HM.le hB) (HM.old hr) hn (HM.blk (i := 0) rfl)) ?_
  rintro _ w17 ⟨rfl, hbw⟩
  refine ⟨_, rfl, ?_⟩
  replace HM := HM.call hbw
  clear HF; intro a HF
  refine fp HF 2 5 [(2, .bool b.fitsE), (18, .bool b.fitsE)] ?_; clear HF; intro a HF
  refine from_done rfl ?_
  replace HF := HF.to [(2, .bool b.fitsE), (1, vP g1 0)]
  refine wp_ret ?_
  exact ret1 rfl HF (.tmp HF rfl) (⟨by unfold Bk.fits; rw [if_pos hk], HM.below⟩)
 ·
  refine wp_seq (from_start ?_)
  refine fp HF 2 0 [(10, vP g1 0), (9, .map (some g5))] ?_; clear HF; intro a HF
  refine fy HF HM 2 rfl rfl rfl (v := vB b.kind) (Yl.load1 rfl rfl (by kernel_rfl) (fun _ h => h.cell (i := 1) rfl (rfl))) ?_; clear HF; intro a HF
  refine fy HF HM 3 rfl rfl rfl (v := .func (.func 54) #[] #[vP g1 0]) (Yl.lookupHas (kt := 5) (et := 24) (kd := .int .u8) (j := 1) (es := (#[].push { key := vB 1, val := .func (.func 52) #[] #[vP g1 0], born := 0 }).push { key := vB 2, val := .func (.func 54) #[] #[vP g1 0], born := 0 + 1 }) (clock := 0 + 1 + 1) rfl (by kernel_rfl) (by kernel_rfl) rfl rfl (fun _ h => h.objAt (i := 0) rfl) (by first | trivial | rfl) (by rw [hk]; rfl)) ?_; clear HF; intro a HF
  refine fp HF 1 4 [(4, .func (.func 54) #[] #[vP g1 0])] ?_; clear HF; intro a HF
  refine from_done rfl ?_
  replace HM := HM.picks (fs' := [.blk g1 (b.cells A c) 27]) [1] (by decide) rfl
  refine wp_seq (from_start ?_)
  refine fp HF 1 0 [(13, .func (.func 54) #[] #[vP g1 0])] ?_; clear HF; intro a HF
  refine fy HF HM 1 rfl rfl rfl (v := .bool true) (Yl.neqFunc rfl rfl rfl (by kernel_rfl)) ?_; clear HF; intro a HF
  refine fp HF 2 2 [(16, .func (.func 54) #[] #[vP g1 0]), (15, .bool true)] ?_; clear HF; intro a HF
  refine from_op HF (i := 4) rfl rfl ?_
  refine e_callv HF (f := 54) (vs := []) (fst := []) (caps := [vP g1 0]) rfl rfl rfl (by kernel_rfl) rfl (by decide) (fits2_any _ b A c _ (HM.blk (i := 0) rfl)) ?_
  rintro _ w17 ⟨rfl, hbw⟩
  refine ⟨_, rfl, ?_⟩
  replace HM := HM.call hbw
  clear HF; intro a HF
  refine fp HF 2 5 [(2, .bool b.fitsN), (18, .bool b.fitsN)] ?_; clear HF; intro a HF
  refine from_done rfl ?_
  replace HF := HF.to [(2, .bool b.fitsN), (1, vP g1 0)]
  refine wp_ret ?_
  exact ret1 rfl HF (.tmp HF rfl) (⟨by unfold Bk.fits; rw [if_neg (by omega), if_pos hk], HM.below⟩)
 ·
  refine wp_seq (from_start ?_)
  refine fp HF 2 0 [(10, vP g1 0), (9, .map (some g5))] ?_; clear HF; intro a HF
  refine fy HF HM 2 rfl rfl rfl (v := vB b.kind) (Yl.load1 rfl rfl (by kernel_rfl) (fun _ h => h.cell (i := 1) rfl (rfl))) ?_; clear HF; intro a HF
  refine fy HF HM 3 rfl rfl rfl (v := .nilFunc) (Yl.lookupNone (kt := 5) (et := 24) (kd := .int .u8) (es := (#[].push { key := vB 1, val := .func (.func 52) #[] #[vP g1 0], born := 0 }).push { key := vB 2, val := .func (.func 54) #[] #[vP g1 0], born := 0 + 1 }) (clock := 0 + 1 + 1) rfl (by kernel_rfl) (by kernel_rfl) rfl rfl (fun _ h => h.objAt (i := 0) rfl) (by first | trivial | rfl) (by have e1 : ((b.kind : Int) == 1) = false := (by rw [beq_eq_false_iff_ne]; omega); have e2 : ((b.kind : Int) == 2) = false := (by rw [beq_eq_false_iff_ne]; omega); simp [Instr.findNow, Instr.sameNow, e1, e2]) (by kernel_rfl)) ?_; clear HF; intro a HF
  refine fp HF 1 4 [(4, .nilFunc)] ?_; clear HF; intro a HF
  refine from_done rfl ?_
  replace HM := HM.picks (fs' := [.blk g1 (b.cells A c) 27]) [1] (by decide) rfl
  refine wp_seq (from_start ?_)
  refine fp HF 1 0 [(13, .nilFunc)] ?_; clear HF; intro a HF
  refine fy HF HM 1 rfl rfl rfl (v := .bool false) (Yl.neqNil rfl rfl rfl (by kernel_rfl)) ?_; clear HF; intro a HF
  refine fp HF 5 2 [(2, .bool false), (18, .bool false), (17, undef), (16, undef), (15, .bool false)] ?_; clear HF; intro a HF
  refine from_done rfl ?_
  replace HF := HF.to [(2, .bool false), (1, vP g1 0)]
  refine wp_ret ?_
  exact ret1 rfl HF (.tmp HF rfl) (⟨by unfold Bk.fits; rw [if_neg hk, if_neg hk2], HM.below⟩)
set_option maxRecDepth 100000 in
set_option maxHeartbeats 4000000 in
theorem base_any (b : Bk) (A : Option Addr) (c : Nat) (w : World) (hr : Rd w w.heap.size 11 A b.evs.length (b.evs.flatMap evL)) (h0 : b.evs.length ≠ 0) :
    Calls Tryd.prog 36 #[.agg (b.cells A c)] w (Is w (.agg b.base.cells)) := by
 refine calls_enter (vs := [.agg (b.cells A c)]) Tryd.func36 rfl rfl (by kernel_rfl) (σ0 := [(0, .agg (b.cells A c))]) rfl ?_
 intro a HF
 have HM := Mem.start w
 refine wp_seq (from_start ?_)
 refine from_op HF (i := 0) rfl rfl ?_
 refine e_box HF HM (cs := (b.cells A c)) rfl rfl rfl rfl (by decide) ?_
 clear HF HM; intro a w1 g1 HF HM
 refine from_op HF (i := 1) rfl rfl ?_
 refine e_alloc HF HM (cs := #[vI 0, vI 0]) rfl (by kernel_rfl) rfl (by decide) ?_
 clear HF HM; intro a w2 g2 HF HM
 refine from_done rfl ?_
 refine wp_seq ?_
 refine any_start (by kernel_rfl) (fun wS => Mem w wS [.blk g2 #[vI 0, vI 0] 69, .blk g1 (b.cells A c) 27]) [11] ?_
 replace HM := HM.drew
 have HS := HM.picks (fs' := [.blk g2 #[vI 0, vI 0] 69, .blk g1 (b.cells A c) 27]) [0, 1] (by decide) rfl
 refine ap HF (fun _ => HS) [0, 5] #[true, false, false, false, false, true, false, false, false, false, false, false] [(8, vP g1 4), (3, vP g1 4)] ?_; clear HF; intro a HF
 refine ay HF HS 1 rfl rfl rfl (v := .slice A b.evs.length c) (Yl.load1 rfl rfl (by kernel_rfl) (fun _ h => h.cell (i := 1) rfl (rfl))) ?_; clear HF; intro a HF
 obtain ⟨gA, oA, rfl, _⟩ := hr.some_at (Nat.lt_of_le_of_lt (Nat.zero_le _) (show 0 < b.evs.length from by omega)) (by decide)
 refine ay HF HS 2 rfl rfl rfl (v := vP gA oA) (Yl.indexAddr (ad := ⟨gA, oA, none⟩) (y := 0) (sz := 11) rfl rfl rfl (by omega) (by kernel_rfl)) ?_; clear HF; intro a HF
 refine ap HF (fun _ => HS) [3] #[true, true, true, true, false, true, false, false, false, false, false, false] [(6, vP gA oA)] ?_; clear HF; intro a HF
 refine ay HF HS 4 rfl rfl rfl (v := vI ((b.evs.getD 0 Ev.zero).seq)) (Yl.load1 rfl rfl (by kernel_rfl) (fun _ h => (by have := (h.old hr).partAt evL_len (k := 0) (j := 0) (x := (b.evs.getD 0 Ev.zero)) ((getD_at Ev.zero (k := 0) (by first | omega | (simp; omega)))) rfl; simpa using this))) ?_; clear HF; intro a HF
 refine ay HF HS 6 rfl rfl rfl (v := .slice (some ⟨gA, oA, none⟩) b.evs.length c) (Yl.load1 rfl rfl (by kernel_rfl) (fun _ h => h.cell (i := 1) rfl (rfl))) ?_; clear HF; intro a HF
 refine ay HF HS 7 rfl rfl rfl (v := vP gA oA) (Yl.indexAddr (ad := ⟨gA, oA, none⟩) (y := 0) (sz := 11) rfl rfl rfl (by omega) (by kernel_rfl)) ?_; clear HF; intro a HF
 refine ap HF (fun _ => HS) [8] #[true, true, true, true, true, true, true, true, true, false, false, false] [(11, vP gA (oA + 1))] ?_; clear HF; intro a HF
 refine ay HF HS 9 rfl rfl rfl (v := vI ((b.evs.getD 0 Ev.zero).time)) (Yl.load1 rfl rfl (by kernel_rfl) (fun _ h => (h.old hr).partAt evL_len (k := 0) (j := 1) (x := (b.evs.getD 0 Ev.zero)) ((getD_at Ev.zero (k := 0) (by first | omega | (simp; omega)))) rfl)) ?_; clear HF; intro a HF
 refine ay HF HS 10 rfl rfl rfl (v := .agg #[vI ((b.evs.getD 0 Ev.zero).seq), vI ((b.evs.getD 0 Ev.zero).time)]) (Yl.build (vs := [(0, vI ((b.evs.getD 0 Ev.zero).seq)), (1, vI ((b.evs.getD 0 Ev.zero).time))]) rfl (by kernel_rfl) (by kernel_rfl)) ?_; clear HF; intro a HF
 refine any_all [11] (by kernel_rfl) rfl ?_
 refine all_cons ?_ all_nil
 refine any_op HF (i := 11) rfl rfl ?_
 refine e_storeAll HF HM (i := 0) (cs := #[vI 0, vI 0]) (ds := #[vI ((b.evs.getD 0 Ev.zero).seq), vI ((b.evs.getD 0 Ev.zero).time)]) rfl rfl rfl rfl ⟨(by kernel_rfl), (by kernel_rfl)⟩ rfl rfl (by simp [Value.oneCell']) rfl ?_
 clear HM; intro w1_11 HM
 refine noS (by kernel_rfl) ?_
 refine any_done (by kernel_rfl) ?_
 replace HM := HM.picks (fs' := [.blk g2 #[vI ((b.evs.getD 0 Ev.zero).seq), vI ((b.evs.getD 0 Ev.zero).time)] 69]) [0] (by decide) rfl
 refine wp_ret ?_
 exact ret1 rfl HF (.cellS (i := 0) HF HM rfl rfl ⟨(by kernel_rfl), (by kernel_rfl)⟩ rfl) (⟨by rw [base_getD]; rfl, HM.below⟩)
set_option maxRecDepth 100000 in
set_option maxHeartbeats 4000000 in
theorem vwrite_any (x : Nat) (hx : x < 18446744073709551616) (w : World) :
    Calls Tryd.prog 55 #[.int .u64 (x : Int)] w (BytesOne w (vbytes x)) := by
 refine calls_enter (vs := [vQ x]) Tryd.func55 rfl rfl (by kernel_rfl) (σ0 := [(0, vQ x)]) rfl ?_
 intro a HF
 have HM := Mem.start w
 refine wp_seq (from_start ?_)
 refine fp HF 1 0 [(2, .slice none 0 0)] ?_; clear HF; intro a HF
 refine from_done rfl ?_
 refine wp_seq (from_start ?_)
 refine fp HF 1 0 [(3, vQ x)] ?_; clear HF; intro a HF
 refine from_op HF (i := 1) rfl rfl ?_
 refine e_call HF (vs := [.slice none 0 0, vQ x]) rfl (by kernel_rfl) (by kernel_rfl) rfl (by decide) (vwrite_put hx) ?_
 rintro _ w4 ⟨⟨A4, c4, rfl, ho, hc4⟩, hbw⟩
 refine ⟨_, rfl, ?_⟩
 replace HM := HM.callRow hbw ho
 clear HF; intro a HF
 refine fp HF 1 2 [(2, .slice A4 ((vbytes x).length) c4)] ?_; clear HF; intro a HF
 refine from_done rfl ?_
 refine wp_ret ?_
 exact ret1 rfl HF (.tmp HF rfl) (⟨⟨_, _, rfl, HM.own (i := 0) rfl, hc4⟩, HM.below⟩)
theorem all4 {w : World} {a b c d : Part} (ha : Rd w w.heap.size 1 a.A a.l.length (a.l.map B8)) (hb : Rd w w.heap.size 1 b.A b.l.length (b.l.map B8)) (hc : Rd w w.heap.size 1 c.A c.l.length (c.l.map B8)) (hd : Rd w w.heap.size 1 d.A d.l.length (d.l.map B8)) : ∀ p ∈ [a, b, c, d], Rd w w.heap.size 1 p.A p.l.length (p.l.map B8) := by
  intro p hp
  simp only [List.mem_cons, List.not_mem_nil, or_false] at hp
  rcases hp with rfl | rfl | rfl | rfl
  · exact ha
  · exact hb
  · exact hc
  · exact hd
set_option maxRecDepth 100000 in
set_option maxHeartbeats 4000000 in
theorem body_any (b : Bk) (hok : b.Ok) (A : Option Addr) (c B : Nat) (w : World) (hL : LaidX B w) (hB : B ≤ w.heap.size) (hr : Rd w w.heap.size 11 A b.evs.length (b.evs.flatMap evL)) (hn : b.evs.length ≤ 1000000) (hf : b.fits = true) :
    Calls Tryd.prog 33 #[.agg (b.cells A c)] w (BytesOne w b.body) := by
 have hcpu := hok.cpu
 refine calls_enter (vs := [.agg (b.cells A c)]) Tryd.func33 rfl rfl (by kernel_rfl) (σ0 := [(0, .agg (b.cells A c))]) rfl ?_
 intro a HF
 have HM := Mem.start w
 refine wp_seq (from_start ?_)
 refine from_op HF (i := 0) rfl rfl ?_
 refine e_box HF HM (cs := (b.cells A c)) rfl rfl rfl rfl (by decide) ?_
 clear HF HM; intro a w1 g1 HF HM
 refine fp HF 1 1 [(2, .slice none 0 0)] ?_; clear HF; intro a HF
 refine from_done rfl ?_
 refine wp_seq (wp_seq (from_start ?_))
 refine fp HF 1 0 [(7, vP g1 0)] ?_; clear HF; intro a HF
 refine fy HF HM 1 rfl rfl rfl (v := vB b.kind) (Yl.load1 rfl rfl (by kernel_rfl) (fun _ h => h.cell (i := 0) rfl (rfl))) ?_; clear HF; intro a HF
 refine fp HF 1 2 [(9, .bool ((b.kind : Int) == (2 : Int)))] ?_; clear HF; intro a HF
 refine from_done rfl ?_
 rcases Bool.eq_false_or_eq_true ((b.kind : Int) == (2 : Int)) with hb9 | hb9
 ·have HF := HF.on 9 hb9
  have hd9 := eq_of_beq hb9
  have hk : b.kind = 2 := by omega
  obtain ⟨n1, n2, n3, n4, n5⟩ := fits_next hf hk
  refine cond_true HF rfl (wp_seq (from_start ?_))
  refine fp HF 1 0 [(10, vP g1 3)] ?_; clear HF; intro a HF
  refine fy HF HM 1 rfl rfl rfl (v := vI b.next) (Yl.load1 rfl rfl (by kernel_rfl) (fun _ h => h.cell (i := 0) rfl (rfl))) ?_; clear HF; intro a HF
  refine fp HF 1 2 [(12, vQ (IntKind.u64.wrap b.next))] ?_; clear HF; intro a HF
  replace HF := HF.as (t := 12) (u := vQ b.next.toNat) rfl (u64_nat (by omega) (by omega))
  refine from_op HF (i := 3) rfl rfl ?_
  refine e_call HF (vs := [vQ b.next.toNat]) rfl (by kernel_rfl) (by kernel_rfl) rfl (by decide) (vwrite_any b.next.toNat (by omega) _) ?_
  rintro _ w13 ⟨⟨A13, c13, rfl, ho, hc13⟩, hbw⟩
  refine ⟨_, rfl, ?_⟩
  replace HM := HM.callRow hbw ho
  clear HF; intro a HF
  refine fp HF 1 4 [(2, .slice A13 ((vbytes b.next.toNat).length) c13)] ?_; clear HF; intro a HF
  refine from_done rfl ?_
  refine wp_ret ?_
  exact ret1 rfl HF (.tmp HF rfl) (BytesOne.as ⟨⟨_, _, rfl, HM.own (i := 0) rfl, hc13⟩, HM.below⟩ (by unfold Bk.body; rw [if_pos hk]))
 ·have HF := HF.on 9 hb9
  have hd9 := ne_of_beq_false hb9
  have hk : b.kind ≠ 2 := by omega
  obtain ⟨m0, m1, m2, m3, m4⟩ := fits_lost hf hk
  refine cond_false HF rfl (wp_skip (wp_seq (from_start ?_)))
  refine fp HF 1 0 [(14, vP g1 1)] ?_; clear HF; intro a HF
  refine fy HF HM 1 rfl rfl rfl (v := vB b.cpu) (Yl.load1 rfl rfl (by kernel_rfl) (fun _ h => h.cell (i := 0) rfl (rfl))) ?_; clear HF; intro a HF
  refine fp HF 1 2 [(16, vQ (IntKind.u64.wrap (b.cpu : Int)))] ?_; clear HF; intro a HF
  replace HF := HF.as (t := 16) (u := vQ b.cpu) rfl (u64_nat rfl (by omega))
  refine fp HF 1 3 [(17, vP g1 2)] ?_; clear HF; intro a HF
  refine fy HF HM 4 rfl rfl rfl (v := vI b.lost) (Yl.load1 rfl rfl (by kernel_rfl) (fun _ h => h.cell (i := 0) rfl (rfl))) ?_; clear HF; intro a HF
  refine fp HF 1 5 [(19, vQ (IntKind.u64.wrap b.lost))] ?_; clear HF; intro a HF
  replace HF := HF.as (t := 19) (u := vQ b.lost.toNat) rfl (u64_nat (by omega) (by omega))
  refine fp HF 1 6 [(20, vP g1 4)] ?_; clear HF; intro a HF
  refine fy HF HM 7 rfl rfl rfl (v := .slice A b.evs.length c) (Yl.load1 rfl rfl (by kernel_rfl) (fun _ h => h.cell (i := 0) rfl (rfl))) ?_; clear HF; intro a HF
  refine fy HF HM 8 rfl rfl rfl (Yl.len rfl rfl (by kernel_rfl)) ?_; clear HF; intro a HF
  refine fp HF 1 9 [(23, vQ (IntKind.u64.wrap (b.evs.length : Int)))] ?_; clear HF; intro a HF
  replace HF := HF.as (t := 23) (u := vQ b.evs.length) rfl (u64_nat rfl (by omega))
  refine from_op HF (i := 10) rfl rfl ?_
  refine e_slice HF HM (vs := [(0, vQ b.cpu), (1, vQ b.lost.toNat), (2, vQ b.evs.length)]) (cs := #[vQ b.cpu, vQ b.lost.toNat, vQ b.evs.length]) rfl ei_u64 (by decide) rfl (by kernel_rfl) rfl (by decide) ?_
  clear HF HM; intro a w24 g24 HF HM
  refine from_op HF (i := 11) rfl rfl ?_
  refine e_call HF (vs := [vS g24 3 3]) rfl (by kernel_rfl) (by kernel_rfl) rfl (by decide) (vall_is _ 3 _ [b.cpu, b.lost.toNat, b.evs.length] _ (HM.rdBlk (i := 0) (n := 3) (size := 1) rfl rfl) (by intro x hx; simp only [List.mem_cons, List.not_mem_nil, or_false] at hx; omega) (by omega)) ?_
  rintro _ w25 ⟨⟨A25, c25, rfl, ho, hc25⟩, hbw⟩
  refine ⟨_, rfl, ?_⟩
  replace HM := HM.callRow hbw ho
  clear HF; intro a HF
  refine fp HF 1 12 [(3, .slice A25 (([b.cpu, b.lost.toNat, b.evs.length].flatMap vbytes).length) c25)] ?_; clear HF; intro a HF
  refine from_done rfl ?_
  replace HF := HF.to [(3, .slice A25 (([b.cpu, b.lost.toNat, b.evs.length].flatMap vbytes).length) c25), (9, .bool false), (2, .slice none 0 0), (1, vP g1 0)]
  replace HM := HM.picks (fs' := [.row (.slice A25 (([b.cpu, b.lost.toNat, b.evs.length].flatMap vbytes).length) c25) (([b.cpu, b.lost.toNat, b.evs.length].flatMap vbytes).length) (([b.cpu, b.lost.toNat, b.evs.length].flatMap vbytes).map B8) 5 1, .blk g1 (b.cells A c) 27]) [0, 2] (by decide) rfl
  refine wp_seq (wp_seq (from_start ?_))
  refine fp HF 1 0 [(26, vP g1 4)] ?_; clear HF; intro a HF
  refine fy HF HM 1 rfl rfl rfl (v := .slice A b.evs.length c) (Yl.load1 rfl rfl (by kernel_rfl) (fun _ h => h.cell (i := 1) rfl (rfl))) ?_; clear HF; intro a HF
  refine fy HF HM 2 rfl rfl rfl (Yl.len rfl rfl (by kernel_rfl)) ?_; clear HF; intro a HF
  refine fp HF 1 3 [(29, .bool ((b.evs.length : Int) == (0 : Int)))] ?_; clear HF; intro a HF
  refine from_done rfl ?_
  rcases Bool.eq_false_or_eq_true ((b.evs.length : Int) == (0 : Int)) with hb29 | hb29
  ·have HF := HF.on 29 hb29
   have hd29 := eq_of_beq hb29
   refine cond_true HF rfl (wp_seq (from_start ?_))
   refine fp HF 2 0 [(2, .slice A25 (([b.cpu, b.lost.toNat, b.evs.length].flatMap vbytes).length) c25), (30, .slice A25 (([b.cpu, b.lost.toNat, b.evs.length].flatMap vbytes).length) c25)] ?_; clear HF; intro a HF
   refine from_done rfl ?_
   refine wp_ret ?_
   exact ret1 rfl HF (.tmp HF rfl) (BytesOne.as ⟨⟨_, _, rfl, HM.own (i := 0) rfl, hc25⟩, HM.below⟩ (by unfold Bk.body; rw [if_neg hk, if_pos (by omega)]; simp))
  ·have HF := HF.on 29 hb29
   have hd29 := ne_of_beq_false hb29
   have hw := fits_write hok (fits_evs hf hk).2 (by omega)
   obtain ⟨q1, q2, q3, q4⟩ := base_bnd hok hf hk (by omega)
   refine cond_false HF rfl (wp_skip (wp_seq (from_start ?_)))
   refine fy HF HM 0 rfl rfl rfl (v := .agg (b.cells A c)) (Yl.loadS rfl rfl si_bk rfl (fun _ h => range_of_block (h.blk (i := 1) rfl))) ?_; clear HF; intro a HF
   refine from_op HF (i := 1) rfl rfl ?_
   refine e_call HF (vs := [.agg (b.cells A c)]) rfl (by kernel_rfl) (by kernel_rfl) rfl (by decide) (base_any b A c _ (HM.old hr) (by omega)) ?_
   rintro _ w32 ⟨rfl, hbw⟩
   refine ⟨_, rfl, ?_⟩
   replace HM := HM.call hbw
   clear HF; intro a HF
   refine from_op HF (i := 2) rfl rfl ?_
   refine e_alloc HF HM (cs := #[vI 0, vI 0]) rfl (by kernel_rfl) rfl (by decide) ?_
   clear HF HM; intro a w4 g4 HF HM
   refine from_op HF (i := 3) rfl rfl ?_
   refine e_storeAll HF HM (i := 0) (cs := #[vI 0, vI 0]) (ds := b.base.cells) rfl rfl rfl rfl ⟨(by kernel_rfl), (by kernel_rfl)⟩ rfl rfl (bs_one b.base) rfl ?_
   clear HM; intro w6_3 HM
   refine from_done rfl ?_
   refine wp_seq (from_start ?_)
   refine fy HF HM 0 rfl rfl rfl (v := .agg b.base.cells) (Yl.loadS rfl rfl ⟨(by kernel_rfl), (by kernel_rfl)⟩ rfl (fun _ h => range_of_block (h.blk (i := 0) rfl))) ?_; clear HF; intro a HF
   refine fp HF 1 1 [(35, vP g1 4)] ?_; clear HF; intro a HF
   refine fy HF HM 2 rfl rfl rfl (v := .slice A b.evs.length c) (Yl.load1 rfl rfl (by kernel_rfl) (fun _ h => h.cell (i := 2) rfl (rfl))) ?_; clear HF; intro a HF
   refine from_op HF (i := 3) rfl rfl ?_
   refine e_call HF (vs := [.agg b.base.cells, .slice A b.evs.length c]) rfl (by kernel_rfl) (by kernel_rfl) rfl (by decide) (write_is b.base A b.evs.length c b.evs hok.evs B _ (hL.mem HM hB).laid (HM.le hB) (HM.old hr) (by omega) hw.1 hw.2) ?_
   rintro _ w37 ⟨⟨A37, c37, rfl, ho, hc37⟩, hbw⟩
   refine ⟨_, rfl, ?_⟩
   replace HM := HM.callRow hbw ho
   clear HF; intro a HF
   refine fp HF 5 4 [(6, vI 0), (5, .slice A37 ((recs b.base b.evs).length) c37), (39, vI 0), (38, .slice A37 ((recs b.base b.evs).length) c37), (33, .tuple #[.slice A37 ((recs b.base b.evs).length) c37, vI 0])] ?_; clear HF; intro a HF
   refine from_done rfl ?_
   refine wp_seq ?_
   refine any_start (by kernel_rfl) (fun wS => Mem w wS [.row (.slice A37 ((recs b.base b.evs).length) c37) ((recs b.base b.evs).length) ((recs b.base b.evs).map B8) 5 1, .blk g4 b.base.cells 69, .row (.slice A25 (([b.cpu, b.lost.toNat, b.evs.length].flatMap vbytes).length) c25) (([b.cpu, b.lost.toNat, b.evs.length].flatMap vbytes).length) (([b.cpu, b.lost.toNat, b.evs.length].flatMap vbytes).map B8) 5 1, .blk g1 (b.cells A c) 27]) [] ?_
   replace HM := HM.drew
   have HS := HM.picks (fs' := [.row (.slice A37 ((recs b.base b.evs).length) c37) ((recs b.base b.evs).length) ((recs b.base b.evs).map B8) 5 1, .blk g4 b.base.cells 69, .row (.slice A25 (([b.cpu, b.lost.toNat, b.evs.length].flatMap vbytes).length) c25) (([b.cpu, b.lost.toNat, b.evs.length].flatMap vbytes).length) (([b.cpu, b.lost.toNat, b.evs.length].flatMap vbytes).map B8) 5 1, .blk g1 (b.cells A c) 27]) [0, 1, 2, 3] (by decide) rfl
   refine ap HF (fun _ => HS) [0, 1, 5, 9] #[true, true, false, false, false, true, false, false, false, true, false, false, false] [(49, .slice A37 ((recs b.base b.evs).length) c37), (45, vP g4 1), (41, vP g4 0), (40, .slice A25 (([b.cpu, b.lost.toNat, b.evs.length].flatMap vbytes).length) c25)] ?_; clear HF; intro a HF
   refine ay HF HS 2 rfl rfl rfl (v := vI b.base.seq) (Yl.load1 rfl rfl (by kernel_rfl) (fun _ h => h.cell (i := 1) rfl (rfl))) ?_; clear HF; intro a HF
   refine any_pure HF (fun _ => HS) (i := 3) rfl rfl (d := 43) rfl (by decide) (by kernel_rfl) (fun _ _ _ h => h) (v := vQ (IntKind.u64.wrap b.base.seq)) (fun _ => Yl.pure (by kernel_rfl)) ?_; clear HF; intro a HF
   replace HF := HF.as (t := 43) (u := vQ b.base.seq.toNat) rfl (u64_nat (by omega) (by omega))
   refine ay HF HS 6 rfl rfl rfl (v := vI b.base.time) (Yl.load1 rfl rfl (by kernel_rfl) (fun _ h => h.cell (i := 1) rfl (rfl))) ?_; clear HF; intro a HF
   refine any_pure HF (fun _ => HS) (i := 7) rfl rfl (d := 47) rfl (by decide) (by kernel_rfl) (fun _ _ _ h => h) (v := vQ (IntKind.u64.wrap b.base.time)) (fun _ => Yl.pure (by kernel_rfl)) ?_; clear HF; intro a HF
   replace HF := HF.as (t := 47) (u := vQ b.base.time.toNat) rfl (u64_nat (by omega) (by omega))
   refine any_all [4] (by kernel_rfl) rfl ?_
   refine all_cons ?_ all_nil
   refine any_op HF (i := 4) rfl rfl ?_
   refine e_call HF (vs := [vQ b.base.seq.toNat]) rfl (by kernel_rfl) (by kernel_rfl) rfl (by decide) (vwrite_any b.base.seq.toNat (by omega) _) ?_
   rintro _ w44 ⟨⟨A44, c44, rfl, ho, hc44⟩, hbw⟩
   refine ⟨_, rfl, ?_⟩
   replace HM := HM.callRow hbw ho
   clear HF; intro a HF
   refine keepS (HM.picks [1, 2, 3, 4] (by decide) rfl) (fun HS => ?_)
   refine any_all [8] (by kernel_rfl) rfl ?_
   refine all_cons ?_ all_nil
   refine any_op HF (i := 8) rfl rfl ?_
   refine e_call HF (vs := [vQ b.base.time.toNat]) rfl (by kernel_rfl) (by kernel_rfl) rfl (by decide) (vwrite_any b.base.time.toNat (by omega) _) ?_
   rintro _ w48 ⟨⟨A48, c48, rfl, ho, hc48⟩, hbw⟩
   refine ⟨_, rfl, ?_⟩
   replace HM := HM.callRow hbw ho
   clear HF; intro a HF
   refine keepS (HM.picks [2, 3, 4, 5] (by decide) rfl) (fun HS => ?_)
   refine any_all [10] (by kernel_rfl) rfl ?_
   refine all_cons ?_ all_nil
   refine any_op HF (i := 10) rfl rfl ?_
   refine e_slice HF HM (vs := [(0, .slice A25 (([b.cpu, b.lost.toNat, b.evs.length].flatMap vbytes).length) c25), (1, .slice A44 ((vbytes b.base.seq.toNat).length) c44), (2, .slice A48 ((vbytes b.base.time.toNat).length) c48), (3, .slice A37 ((recs b.base b.evs).length) c37)]) (cs := #[.slice A25 (([b.cpu, b.lost.toNat, b.evs.length].flatMap vbytes).length) c25, .slice A44 ((vbytes b.base.seq.toNat).length) c44, .slice A48 ((vbytes b.base.time.toNat).length) c48, .slice A37 ((recs b.base b.evs).length) c37]) rfl ei_bb (by decide) rfl (by kernel_rfl) rfl (by decide) ?_
   clear HF HM; intro a w50 g50 HF HM
   refine keepS (HM.picks [3, 4, 5, 6] (by decide) rfl) (fun HS => ?_)
   refine any_all [11] (by kernel_rfl) rfl ?_
   refine all_cons ?_ all_nil
   refine any_op HF (i := 11) rfl rfl ?_
   have hps := all4 (a := ⟨A25, c25, [b.cpu, b.lost.toNat, b.evs.length].flatMap vbytes⟩) (b := ⟨A44, c44, vbytes b.base.seq.toNat⟩) (c := ⟨A48, c48, vbytes b.base.time.toNat⟩) (d := ⟨A37, c37, recs b.base b.evs⟩) (HM.rd (i := 5) rfl) (HM.rd (i := 2) rfl) (HM.rd (i := 1) rfl) (HM.rd (i := 3) rfl)
   refine e_call HF (vs := [vS g50 4 4]) rfl (by kernel_rfl) (by kernel_rfl) rfl (by decide) ((concat_any _ 4 _ [⟨A25, c25, [b.cpu, b.lost.toNat, b.evs.length].flatMap vbytes⟩, ⟨A44, c44, vbytes b.base.seq.toNat⟩, ⟨A48, c48, vbytes b.base.time.toNat⟩, ⟨A37, c37, recs b.base b.evs⟩] _ (HM.rdBlk (i := 0) (n := 4) (size := 1) rfl rfl) rfl (by omega) hps (by have h1 := flat_length [b.cpu, b.lost.toNat, b.evs.length]; have h2 := vbytes_length b.base.seq.toNat; have h3 := vbytes_length b.base.time.toNat; have h4 := recsLenB b.evs b.base; simp only [List.flatMap_cons, List.flatMap_nil, List.length_append, List.append_nil, List.length_cons, List.length_nil] at h1 ⊢; omega)).mono (fun _ _ h => h.as (R' := vbytes b.cpu ++ vbytes b.lost.toNat ++ vbytes b.evs.length ++ (vbytes b.base.seq.toNat ++ vbytes b.base.time.toNat ++ recs b.base b.evs)) (by simp))) ?_
   rintro _ w51 ⟨⟨A51, c51, rfl, ho, hc51⟩, hbw⟩
   refine ⟨_, rfl, ?_⟩
   replace HM := HM.callRow hbw ho
   clear HF; intro a HF
   refine keepS (HM.picks [4, 5, 6, 7] (by decide) rfl) (fun HS => ?_)
   refine ap HF (fun _ => HS) [12] #[true, true, true, true, true, true, true, true, true, true, true, true, true] [(2, .slice A51 ((vbytes b.cpu ++ vbytes b.lost.toNat ++ vbytes b.evs.length ++ (vbytes b.base.seq.toNat ++ vbytes b.base.time.toNat ++ recs b.base b.evs)).length) c51)] ?_; clear HF; intro a HF
   refine any_done (by kernel_rfl) ?_
   replace HF := HF.to [(2, .slice A51 ((vbytes b.cpu ++ vbytes b.lost.toNat ++ vbytes b.evs.length ++ (vbytes b.base.seq.toNat ++ vbytes b.base.time.toNat ++ recs b.base b.evs)).length) c51), (4, vP g4 0), (29, .bool false), (3, .slice A25 (([b.cpu, b.lost.toNat, b.evs.length].flatMap vbytes).length) c25), (9, .bool false), (1, vP g1 0)]
   replace HM := HM.picks (fs' := [.row (.slice A51 ((vbytes b.cpu ++ vbytes b.lost.toNat ++ vbytes b.evs.length ++ (vbytes b.base.seq.toNat ++ vbytes b.base.time.toNat ++ recs b.base b.evs)).length) c51) ((vbytes b.cpu ++ vbytes b.lost.toNat ++ vbytes b.evs.length ++ (vbytes b.base.seq.toNat ++ vbytes b.base.time.toNat ++ recs b.base b.evs)).length) ((vbytes b.cpu ++ vbytes b.lost.toNat ++ vbytes b.evs.length ++ (vbytes b.base.seq.toNat ++ vbytes b.base.time.toNat ++ recs b.base b.evs)).map B8) 5 1, .blk g4 b.base.cells 69, .row (.slice A25 (([b.cpu, b.lost.toNat, b.evs.length].flatMap vbytes).length) c25) (([b.cpu, b.lost.toNat, b.evs.length].flatMap vbytes).length) (([b.cpu, b.lost.toNat, b.evs.length].flatMap vbytes).map B8) 5 1, .blk g1 (b.cells A c) 27]) [0, 5, 6, 7] (by decide) rfl
   refine wp_ret ?_
   exact ret1 rfl HF (.tmp HF rfl) (BytesOne.as ⟨⟨_, _, rfl, HM.own (i := 0) rfl, hc51⟩, HM.below⟩ (by unfold Bk.body; rw [if_neg hk, if_neg (by omega)]))
end Go.Proofs.YtnakabnmjnfpcaaDoor

namespace Go.Proofs.YtnakabnmjnfpcaaDoor
open Go.RowKit
instance bkDec : DecidableEq Bk := fun ⟨a0, a1, a2, a3, a4⟩ ⟨b0, b1, b2, b3, b4⟩ =>
  decidable_of_iff (a0 = b0 ∧ a1 = b1 ∧ a2 = b2 ∧ a3 = b3 ∧ a4 = b4) (by simp)
theorem raw_cells {b : Bk} (h : 8 + b.body.length + 4 ≤ 4096) : (#[Value.int .u8 (((8 + b.body.length + 4) % 256 : Nat) : Int), .int .u8 (((8 + b.body.length + 4) / 256 % 256 : Nat) : Int), .int .u8 0, .int .u8 0, .int .u8 113, .int .u8 116, .int .u8 1, .int .u8 (b.kind : Int)] : Array Value).toList ++ b.body.map B8 = b.raw.map B8 := by
  have e0 : 8 + b.body.length + 4 = 12 + b.body.length := by omega
  have e1 : (12 + b.body.length) / 65536 % 256 = 0 := by omega
  have e2 : (12 + b.body.length) / 16777216 % 256 = 0 := by omega
  unfold Bk.raw le4
  rw [e0, e1, e2]
  simp [B8]
theorem vbytes_lt (x : Nat) : ∀ b ∈ vbytes x, b < 256 := by
  intro b hb
  unfold vbytes at hb
  obtain ⟨p, hp, rfl⟩ := List.mem_map.1 hb
  have := grp_lt 10 x p hp
  unfold vbyte
  split <;> omega
theorem recBytes_lt {b : Bs} {e : Ev} (h : e.kind < 256) : ∀ x ∈ recBytes b e, x < 256 := by
  intro x hx
  unfold recBytes at hx
  rcases List.mem_cons.1 hx with rfl | hx
  · exact h
  · obtain ⟨y, _, hy⟩ := List.mem_flatMap.1 hx
    exact vbytes_lt y x hy
theorem recs_lt : ∀ (l : List Ev) (b : Bs), (∀ e ∈ l, e.Ok) → ∀ x ∈ recs b l, x < 256
  | [], _, _, x, hx => by simp [recs] at hx
  | e :: r, b, hok, x, hx => by
    rw [recs] at hx
    rcases List.mem_append.1 hx with h | h
    · exact recBytes_lt (hok e (by simp)).kind x h
    · exact recs_lt r e.at (fun y hy => hok y (by simp [hy])) x h
theorem body_lt {b : Bk} (hok : b.Ok) : ∀ x ∈ b.body, x < 256 := by
  intro x hx
  unfold Bk.body at hx
  split at hx
  · exact vbytes_lt _ x hx
  · rcases List.mem_append.1 hx with h | h
    · rcases List.mem_append.1 h with h | h
      · rcases List.mem_append.1 h with h | h
        · exact vbytes_lt _ x h
        · exact vbytes_lt _ x h
      · exact vbytes_lt _ x h
    · split at h
      · cases h
      · rcases List.mem_append.1 h with h | h
        · rcases List.mem_append.1 h with h | h
          · exact vbytes_lt _ x h
          · exact vbytes_lt _ x h
        · exact recs_lt _ _ hok.evs x h
theorem raw_lt {b : Bk} (hok : b.Ok) : ∀ x ∈ b.raw, x < 256 := by
  intro x hx
  unfold Bk.raw at hx
  rcases List.mem_append.1 hx with h | h
  · rcases List.mem_append.1 h with h | h
    · exact le4_lt _ x h
    · simp only [List.mem_cons, List.not_mem_nil, or_false] at h
      have := hok.kind
      omega
  · exact body_lt hok x h
theorem raw_length (b : Bk) : b.raw.length = 8 + b.body.length := by unfold Bk.raw le4; simp; omega
theorem body_length (b : Bk) : b.body.length ≤ 50 + 61 * b.evs.length := by
  unfold Bk.body
  split
  · have := vbytes_length b.next.toNat; omega
  · have h1 := vbytes_length b.cpu
    have h2 := vbytes_length b.lost.toNat
    have h3 := vbytes_length b.evs.length
    have h4 := vbytes_length b.base.seq.toNat
    have h5 := vbytes_length b.base.time.toNat
    have h6 := recsLenB b.evs b.base
    split <;> simp only [List.length_append, List.length_nil] <;> omega
theorem bk_nil {w w' : World} {b : Bk} {er : Nat} (h : b.err = er) (he : er ≠ 0) (hb : Below w.heap.size w w') : BytesIs w b.err b.out (.returned (.tuple #[.slice none 0 0, .int .i64 (er : Int)])) w' := by
  have h2 : b.out = [] := by unfold Bk.out; rw [if_neg (by omega)]
  rw [h, h2]
  exact ⟨⟨none, 0, rfl, World.ownsRow_nil _ _ _ _, Nat.le_refl _⟩, hb⟩
theorem bk_out {b : Bk} (h : b.err = 0) : b.out = sealL b.raw := by unfold Bk.out; rw [if_pos h]
theorem out_len (b : Bk) : b.out.length ≤ 4096 := by
  unfold Bk.out
  split
  · rename_i h
    unfold Bk.err at h
    split at h
    · cases h
    · split at h
      · cases h
      · rw [seal_len, raw_length]; omega
  · simp
theorem tkVal_le (most : Nat) (l : List Nat) : tkVal most l ≤ most := by unfold tkVal; split <;> omega
theorem tkVal_min (most : Nat) (l : List Nat) : (if ((most : Nat) : Int) < (((vread l).1 : Nat) : Int) then ((most : Nat) : Int) else (((vread l).1 : Nat) : Int)) = ((tkVal most l : Nat) : Int) := by unfold tkVal; split <;> split <;> omega
theorem tkRest_len (l : List Nat) : (tkRest l).length = l.length - (vread l).2.1 := by unfold tkRest; rw [List.length_drop]
theorem tkRest_le (l : List Nat) : (tkRest l).length ≤ l.length := by rw [tkRest_len]; omega
theorem tkOk_false {most : Nat} {l : List Nat} (h : (vread l).2.2 ≠ 0) : tkOk most l = false := by unfold tkOk; rw [decide_eq_false]; omega
def TakeIs (W : World) (gb gk : Nat) (l : List Nat) (okb : Bool) (most : Nat) (fr : List Fact) (r : Ending) (w' : World) : Prop :=
  r = .returned (.int .i64 ((tkVal most l : Nat) : Int)) ∧ ∃ A' c', Rd W W.heap.size 1 A' (tkRest l).length ((tkRest l).map B8) ∧ (tkRest l).length ≤ c' ∧
    Mem W w' (.blk gb #[.slice A' (tkRest l).length c'] 22 :: .blk gk #[.bool (okb && tkOk most l)] 4 :: fr)
theorem takeIs_of {W w' : World} {gb gk n c most : Nat} {l : List Nat} {okb ok2 : Bool} {A : Option Addr} {fr : List Fact} (hr : Rd W W.heap.size 1 A l.length (l.map B8)) (hc : l.length ≤ c) (h2 : (okb && tkOk most l) = ok2) (hn : n = l.length)
    (HM : Mem W w' (.blk gb #[.slice (if c = (vread l).2.1 then A else A.map (·.add ((vread l).2.1 * 1))) (n - (vread l).2.1) (c - (vread l).2.1)] 22 :: .blk gk #[.bool ok2] 4 :: fr)) :
    TakeIs W gb gk l okb most fr (.returned (.int .i64 ((tkVal most l : Nat) : Int))) w' := by
  subst h2; subst hn
  refine ⟨rfl, (if c = (vread l).2.1 then A else A.map (·.add ((vread l).2.1 * 1))), c - (vread l).2.1, ?_, ?_, ?_⟩
  · rw [tkRest_len]
    exact hr.fromB8 (vread_len l) hc
  · rw [tkRest_len]; omega
  · rw [tkRest_len]; exact HM
/-- What parse hands over. -/
def ParseIs (w : World) (q : Option Bk) (r : Ending) (w' : World) : Prop :=
  (∃ cs : Array Value, r = .returned (.tuple #[.agg cs, .bool q.isSome]) ∧ cs.size = 5 ∧ (∀ v ∈ cs.toList, v.oneCell' = true) ∧
    (∀ b, q = some b → ∃ A c, cs = b.cells A c ∧ w'.ownsRow w.heap.size 46 11 (.slice A b.evs.length c) b.evs.length (b.evs.flatMap evL) ∧ b.evs.length ≤ c)) ∧ Below w.heap.size w w'
theorem parseIs_none {w w' : World} {q : Option Bk} {cs : Array Value} (h : q = none) (hs : cs.size = 5) (h1 : ∀ v ∈ cs.toList, v.oneCell' = true) (hb : Below w.heap.size w w') : ParseIs w q (.returned (.tuple #[.agg cs, .bool false])) w' := by
  subst h
  exact ⟨⟨cs, rfl, hs, h1, fun b h => by cases h⟩, hb⟩
theorem parseIs_some {w w' : World} {q : Option Bk} {b : Bk} {A : Option Addr} {c : Nat} (h : q = some b) (ho : w'.ownsRow w.heap.size 46 11 (.slice A b.evs.length c) b.evs.length (b.evs.flatMap evL)) (hc : b.evs.length ≤ c) (hb : Below w.heap.size w w') : ParseIs w q (.returned (.tuple #[.agg (b.cells A c), .bool true])) w' := by
  subst h
  exact ⟨⟨_, rfl, rfl, bk_one _ _ _, fun b' h => by injection h with h; subst h; exact ⟨A, c, rfl, ho, hc⟩⟩, hb⟩
theorem tk3 {l : List Nat} : (((true && tkOk 63 l) && tkOk 281474976710656 (tkRest l)) && tkOk 4096 (tkRest (tkRest l))) = parse3 l := by unfold parse3; simp
theorem parseR_end (l : List Nat) : parseR 2 l = parseEnd l := by unfold parseR; rw [if_pos rfl]
theorem parseR_evs (l : List Nat) : parseR 1 l = parseEvs l := by unfold parseR; rw [if_neg (by omega)]
theorem endOk {x : Nat} (h : x ≤ 281474976710657) : Bk.Ok ⟨2, 0, 0, (x : Int), []⟩ := ⟨by show 2 < 256; decide, by show 0 < 256; decide, by unfold I64; simp, small_i64 h, by simp⟩
theorem evsOk {cpu lost : Nat} {es : List Ev} (h : cpu < 256) (hl : lost ≤ 281474976710656) (he : ∀ e ∈ es, e.Ok) : Bk.Ok ⟨1, cpu, (lost : Int), 0, es⟩ := ⟨by show 1 < 256; decide, h, small_i64 (by show lost ≤ _; omega), by unfold I64; simp, he⟩
theorem parseEvs_full {l : List Nat} {q : List Ev × Nat × Nat} (h3 : parse3 l = true) (h0 : 0 < tkVal 4096 (tkRest (tkRest l)))
    (hq : readR ⟨(tkVal 281474976710656 (tkRest (tkRest (tkRest l))) : Int), (tkVal 281474976710656 (tkRest (tkRest (tkRest (tkRest l)))) : Int)⟩ (tkVal 63 l) (tkVal 4096 (tkRest (tkRest l)) : Int) (tkRest (tkRest (tkRest (tkRest (tkRest l))))) = q) :
    parseEvs l = parseRows (tkVal 63 l) (tkVal 281474976710656 (tkRest l)) (tkRest (tkRest (tkRest l))) q := by
  unfold parseEvs
  rw [if_pos ⟨h3, h0⟩, hq]
theorem parseRows_none {cpu lost : Nat} {l : List Nat} {q : List Ev × Nat × Nat} (h : ¬ (q.2.2 = 0 ∧ (q.1.getD 0 Ev.zero).seq = (tkVal 281474976710656 l : Int) ∧ (q.1.getD 0 Ev.zero).time = (tkVal 281474976710656 (tkRest l) : Int) ∧ tkOk 281474976710656 l = true ∧ tkOk 281474976710656 (tkRest l) = true ∧ (tkRest (tkRest l)).length - q.2.1 = 0 ∧ Bk.fits ⟨1, cpu, lost, 0, q.1⟩ = true)) : parseRows cpu lost l q = none := by
  unfold parseRows
  rw [if_neg]
  intro hh
  obtain ⟨h1, h2, h3, h4, h5, h6, h7⟩ := hh
  rw [List.length_drop] at h6
  have e : q.1.headD Ev.zero = q.1.getD 0 Ev.zero := by cases q.1 <;> rfl
  rw [e] at h2 h3
  exact h ⟨h1, h2, h3, h4, h5, h6, h7⟩
theorem parseRows_some {cpu lost : Nat} {l : List Nat} {q : List Ev × Nat × Nat} (h : q.2.2 = 0 ∧ (q.1.getD 0 Ev.zero).seq = (tkVal 281474976710656 l : Int) ∧ (q.1.getD 0 Ev.zero).time = (tkVal 281474976710656 (tkRest l) : Int) ∧ tkOk 281474976710656 l = true ∧ tkOk 281474976710656 (tkRest l) = true ∧ (tkRest (tkRest l)).length - q.2.1 = 0 ∧ Bk.fits ⟨1, cpu, lost, 0, q.1⟩ = true) : parseRows cpu lost l q = some ⟨1, cpu, lost, 0, q.1⟩ := by
  unfold parseRows
  rw [if_pos]
  obtain ⟨h1, h2, h3, h4, h5, h6, h7⟩ := h
  have e : q.1.headD Ev.zero = q.1.getD 0 Ev.zero := by cases q.1 <;> rfl
  rw [e, List.length_drop]
  exact ⟨h1, h2, h3, h4, h5, h6, h7⟩
theorem parseEnd_is (l : List Nat) : (parseEnd l).isSome = (tkOk 281474976710657 l && (decide ((tkRest l).length = 0) && Bk.fits ⟨2, 0, 0, (tkVal 281474976710657 l : Int), []⟩)) := by
  unfold parseEnd
  split
  · rename_i h; rw [h.1, decide_eq_true h.2.1, h.2.2]; rfl
  · rename_i h
    show false = _
    rw [eq_comm, Bool.eq_false_iff]
    intro hh
    simp only [Bool.and_eq_true, decide_eq_true_eq] at hh
    exact h ⟨hh.1, hh.2.1, hh.2.2⟩
theorem parseEnd_val {l : List Nat} (h : (parseEnd l).isSome = true) : parseEnd l = some ⟨2, 0, 0, (tkVal 281474976710657 l : Int), []⟩ := by
  unfold parseEnd at h ⊢
  split
  · rfl
  · rename_i h2; rw [if_neg h2] at h; cases h
theorem few_is {l : List Nat} (h : ¬ (parse3 l = true ∧ 0 < tkVal 4096 (tkRest (tkRest l)))) : (parseEvs l).isSome = (parse3 l && (decide ((tkRest (tkRest (tkRest l))).length = 0) && Bk.fits ⟨1, tkVal 63 l, (tkVal 281474976710656 (tkRest l) : Int), 0, []⟩)) := by
  unfold parseEvs
  rw [if_neg h]
  split
  · rename_i h; rw [h.1, decide_eq_true h.2.1, h.2.2]; rfl
  · rename_i h
    show false = _
    rw [eq_comm, Bool.eq_false_iff]
    intro hh
    simp only [Bool.and_eq_true, decide_eq_true_eq] at hh
    exact h ⟨hh.1, hh.2.1, hh.2.2⟩
theorem few_val {l : List Nat} (h : ¬ (parse3 l = true ∧ 0 < tkVal 4096 (tkRest (tkRest l)))) (hs : (parseEvs l).isSome = true) : parseEvs l = some ⟨1, tkVal 63 l, (tkVal 281474976710656 (tkRest l) : Int), 0, []⟩ := by
  unfold parseEvs at hs ⊢
  rw [if_neg h] at hs ⊢
  split
  · rfl
  · rename_i h2; rw [if_neg h2] at hs; cases hs
theorem rows_is {cpu lost L : Nat} {l : List Nat} {es : List Ev} (h : (es.getD 0 Ev.zero).seq = (tkVal 281474976710656 l : Int) ∧ (es.getD 0 Ev.zero).time = (tkVal 281474976710656 (tkRest l) : Int)) : (parseRows cpu lost l (es, L, 0)).isSome = ((tkOk 281474976710656 l && tkOk 281474976710656 (tkRest l)) && (decide ((tkRest (tkRest l)).length - L = 0) && Bk.fits ⟨1, cpu, (lost : Int), 0, es⟩)) := by
  cases hc : ((tkOk 281474976710656 l && tkOk 281474976710656 (tkRest l)) && (decide ((tkRest (tkRest l)).length - L = 0) && Bk.fits ⟨1, cpu, (lost : Int), 0, es⟩)) with
  | true =>
    simp only [Bool.and_eq_true, decide_eq_true_eq] at hc
    rw [parseRows_some ⟨rfl, h.1, h.2, hc.1.1, hc.1.2, hc.2.1, hc.2.2⟩]
    rfl
  | false =>
    rw [parseRows_none]
    · rfl
    · intro hh
      obtain ⟨h1, h2, h3, h4, h5, h6, h7⟩ := hh
      rw [h4, h5, h7, decide_eq_true h6] at hc
      cases hc
theorem rows_val {cpu lost : Nat} {l : List Nat} {q : List Ev × Nat × Nat} (h : (parseRows cpu lost l q).isSome = true) : parseRows cpu lost l q = some ⟨1, cpu, (lost : Int), 0, q.1⟩ := by
  unfold parseRows at h ⊢
  split
  · rfl
  · rename_i h2; rw [if_neg h2] at h; cases h
theorem ParseIs.none {w w' : World} {q : Option Bk} {r : Ending} (h : ParseIs w q r w') (hq : q = none) : (∃ cs : Array Value, r = .returned (.tuple #[.agg cs, .bool false]) ∧ cs.size = 5 ∧ (∀ v ∈ cs.toList, v.oneCell' = true)) ∧ Below w.heap.size w w' := by
  subst hq
  obtain ⟨⟨cs, h1, h2, h3, _⟩, h4⟩ := h
  exact ⟨⟨cs, h1, h2, h3⟩, h4⟩
theorem ParseIs.some {w w' : World} {q : Option Bk} {b : Bk} {r : Ending} (h : ParseIs w q r w') (hq : q = some b) : (∃ A c, r = .returned (.tuple #[.agg (b.cells A c), .bool true]) ∧ w'.ownsRow w.heap.size 46 11 (.slice A b.evs.length c) b.evs.length (b.evs.flatMap evL) ∧ b.evs.length ≤ c) ∧ Below w.heap.size w w' := by
  subst hq
  obtain ⟨⟨cs, h1, h2, h3, h5⟩, h4⟩ := h
  obtain ⟨A, c, rfl, h6, h7⟩ := h5 b rfl
  exact ⟨⟨A, c, h1, h6, h7⟩, h4⟩
/-- What Read hands over. -/
def BReadIs (T : TypeId) (w : World) (q : Bk × Nat × Nat) (r : Ending) (w' : World) : Prop :=
  (∃ A c, r = .returned (.tuple #[.agg (q.1.cells A c), .int .i64 (q.2.1 : Int), .int .i64 (q.2.2 : Int)]) ∧ w'.ownsRow w.heap.size T 11 (.slice A q.1.evs.length c) q.1.evs.length (q.1.evs.flatMap evL) ∧ q.1.evs.length ≤ c) ∧ Below w.heap.size w w'
theorem breadIs_bad {T : TypeId} {w w' : World} {q : Bk × Nat × Nat} {er : Nat} (h : q = (Bk.zero, 0, er)) (hb : Below w.heap.size w w') : BReadIs T w q (.returned (.tuple #[.agg #[.int .u8 0, .int .u8 0, .int .i64 0, .int .i64 0, .slice none 0 0], .int .i64 0, .int .i64 (er : Int)])) w' := by
  subst h
  exact ⟨⟨none, 0, rfl, World.ownsRow_nil _ _ _ _, Nat.le_refl _⟩, hb⟩
theorem breadIs_ok {T : TypeId} {w w' : World} {q : Bk × Nat × Nat} {b : Bk} {m c : Nat} {A : Option Addr} (h : q = (b, m, 0)) (ho : w'.ownsRow w.heap.size T 11 (.slice A b.evs.length c) b.evs.length (b.evs.flatMap evL)) (hc : b.evs.length ≤ c) (hb : Below w.heap.size w w') : BReadIs T w q (.returned (.tuple #[.agg (b.cells A c), .int .i64 (m : Int), .int .i64 0])) w' := by
  subst h
  exact ⟨⟨A, c, rfl, ho, hc⟩, hb⟩
theorem readB_len {l : List Nat} (h : (lenR l).2 ≠ 0) : readB l = (Bk.zero, 0, (lenR l).2) := by unfold readB; rw [if_pos h]
theorem readB_none {l L : List Nat} {e : Nat} (h : (lenR l).2 = 0) (hL : L = l.take (lenR l).1) (hb : blkOf L = (none, e)) : readB l = (Bk.zero, 0, e) := by unfold readB; rw [if_neg (by omega), ← hL, hb]
theorem readB_some {l L : List Nat} {b : Bk} {e : Nat} (h : (lenR l).2 = 0) (hL : L = l.take (lenR l).1) (hb : blkOf L = (some b, e)) : readB l = (b, (lenR l).1, 0) := by unfold readB; rw [if_neg (by omega), ← hL, hb]
theorem tk5 {l : List Nat} {m1 m2 m3 m4 m5 : Nat} {a b c d e : List Nat} : (((((true && tkOk m1 a) && tkOk m2 b) && tkOk m3 c) && tkOk m4 d) && tkOk m5 e) = ((((true && tkOk m1 a) && tkOk m2 b) && tkOk m3 c) && (tkOk m4 d && tkOk m5 e)) := by
  have _ := l
  rw [Bool.and_assoc]
end Go.Proofs.YtnakabnmjnfpcaaDoor

namespace Go.Proofs.YtnakabnmjnfpcaaDoor
open Go.RowKit
/-- What is known of bytes that are a block. -/
structure OneForm (l : List Nat) (b : Bk) (m : Nat) : Prop where
  ok : b.Ok
  fits : b.fits = true
  err : b.err = 0
  out : b.out = l.take m
  len : m ≤ l.length
  evs : b.evs.length ≤ 4096
  least : 13 ≤ m
  most : m ≤ 4096
theorem err_zero {b : Bk} (h : b.err = 0) : b.fits = true ∧ 12 + b.body.length ≤ 4096 := by
  unfold Bk.err at h
  split at h
  · cases h
  · rename_i h1
    split at h
    · cases h
    · rename_i h2
      exact ⟨by simpa using h1, by omega⟩
end Go.Proofs.YtnakabnmjnfpcaaDoor

set_option linter.all false
namespace Go.Proofs.YtnakabnmjnfpcaaDoor
open Go.RowKit
set_option maxRecDepth 100000 in
set_option maxHeartbeats 4000000 in
theorem bwrite_any (b : Bk) (hok : b.Ok) (A : Option Addr) (c B : Nat) (w : World) (hL : LaidX B w) (hB : B ≤ w.heap.size) (hr : Rd w w.heap.size 11 A b.evs.length (b.evs.flatMap evL)) (hn : b.evs.length ≤ 1000000) :
    Calls Tryd.prog 16 #[.agg (b.cells A c)] w (BytesIs w b.err b.out) := by
 refine calls_enter (vs := [.agg (b.cells A c)]) Tryd.func16 rfl rfl (by kernel_rfl) (σ0 := [(0, .agg (b.cells A c))]) rfl ?_
 intro a HF
 have HM := Mem.start w
 refine wp_seq (from_start ?_)
 refine from_op HF (i := 0) rfl rfl ?_
 refine e_box HF HM (cs := (b.cells A c)) rfl rfl rfl rfl (by decide) ?_
 clear HF HM; intro a w1 g1 HF HM
 refine fp HF 2 1 [(3, vI 0), (2, .slice none 0 0)] ?_; clear HF; intro a HF
 refine from_done rfl ?_
 refine wp_seq (wp_seq (from_start ?_))
 refine fy HF HM 0 rfl rfl rfl (v := .agg (b.cells A c)) (Yl.loadS rfl rfl si_bk rfl (fun _ h => range_of_block (h.blk (i := 0) rfl))) ?_; clear HF; intro a HF
 refine from_op HF (i := 1) rfl rfl ?_
 refine e_call HF (vs := [.agg (b.cells A c)]) rfl (by kernel_rfl) (by kernel_rfl) rfl (by decide) (fits_any b hok A c B _ (hL.mem HM hB) (HM.le hB) (HM.old hr) hn) ?_
 rintro _ w8 ⟨rfl, hbw⟩
 refine ⟨_, rfl, ?_⟩
 replace HM := HM.call hbw
 clear HF; intro a HF
 refine fp HF 1 2 [(9, .bool (!b.fits))] ?_; clear HF; intro a HF
 refine from_done rfl ?_
 rcases Bool.eq_false_or_eq_true (!b.fits) with hb9 | hb9
 ·have HF := HF.on 9 hb9
  have hfit : b.fits = false := by simpa using hb9
  refine cond_true HF rfl (wp_seq (from_start ?_))
  refine fp HF 2 0 [(3, vI 107), (2, .slice none 0 0)] ?_; clear HF; intro a HF
  refine from_done rfl ?_
  refine wp_ret ?_
  exact ret2 rfl HF (.tmp HF rfl) (.tmp HF rfl) (bk_nil (by unfold Bk.err; rw [if_pos hfit]) (by decide) HM.below)
 ·have HF := HF.on 9 hb9
  have hfit : b.fits = true := by simpa using hb9
  have hbl := body_length b
  refine cond_false HF rfl (wp_skip (wp_seq (from_start ?_)))
  refine fy HF HM 0 rfl rfl rfl (v := .agg (b.cells A c)) (Yl.loadS rfl rfl si_bk rfl (fun _ h => range_of_block (h.blk (i := 0) rfl))) ?_; clear HF; intro a HF
  refine from_op HF (i := 1) rfl rfl ?_
  refine e_call HF (vs := [.agg (b.cells A c)]) rfl (by kernel_rfl) (by kernel_rfl) rfl (by decide) (body_any b hok A c B _ (hL.mem HM hB) (HM.le hB) (HM.old hr) hn hfit) ?_
  rintro _ w11 ⟨⟨A11, c11, rfl, ho, hc11⟩, hbw⟩
  refine ⟨_, rfl, ?_⟩
  replace HM := HM.callRow hbw ho
  clear HF; intro a HF
  refine fp HF 1 2 [(4, .slice A11 ((b.body).length) c11)] ?_; clear HF; intro a HF
  refine from_done rfl ?_
  refine wp_seq (from_start ?_)
  refine fp HF 1 0 [(12, .slice A11 ((b.body).length) c11)] ?_; clear HF; intro a HF
  refine fy HF HM 1 rfl rfl rfl (Yl.len rfl rfl (by kernel_rfl)) ?_; clear HF; intro a HF
  refine fp HF 1 2 [(14, vI (IntKind.i64.wrap (8 + (((b.body).length : Nat) : Int))))] ?_; clear HF; intro a HF
  replace HF := HF.as (t := 14) (u := vI (8 + ((b.body).length) : Nat)) rfl (i64_nat (by omega) (by omega))
  refine fp HF 1 3 [(15, vI (IntKind.i64.wrap (((8 + ((b.body).length) : Nat) : Int) + 4)))] ?_; clear HF; intro a HF
  replace HF := HF.as (t := 15) (u := vI (8 + ((b.body).length) + 4 : Nat)) rfl (i64_nat (by omega) (by omega))
  refine fp HF 1 4 [(5, vI (8 + ((b.body).length) + 4 : Nat))] ?_; clear HF; intro a HF
  refine from_done rfl ?_
  refine wp_seq (wp_seq (from_start ?_))
  refine fp HF 2 0 [(17, .bool (decide (((8 + ((b.body).length) + 4 : Nat) : Int) > (4096 : Int)))), (16, vI (8 + ((b.body).length) + 4 : Nat))] ?_; clear HF; intro a HF
  refine from_done rfl ?_
  rcases Bool.eq_false_or_eq_true (decide (((8 + ((b.body).length) + 4 : Nat) : Int) > (4096 : Int))) with hb17 | hb17
  ·have HF := HF.on 17 hb17
   have hd17 := of_decide_eq_true hb17
   refine cond_true HF rfl (wp_seq (from_start ?_))
   refine fp HF 2 0 [(3, vI 3), (2, .slice none 0 0)] ?_; clear HF; intro a HF
   refine from_done rfl ?_
   refine wp_ret ?_
   exact ret2 rfl HF (.tmp HF rfl) (.tmp HF rfl) (bk_nil (by unfold Bk.err; rw [if_neg (by simp [hfit]), if_pos (by omega)]) (by decide) HM.below)
  ·have HF := HF.on 17 hb17
   have hd17 := of_decide_eq_false hb17
   refine cond_false HF rfl (wp_skip (wp_seq (from_start ?_)))
   refine fp HF 2 0 [(19, vB (IntKind.u8.wrap ((8 + ((b.body).length) + 4 : Nat) : Int))), (18, vI (8 + ((b.body).length) + 4 : Nat))] ?_; clear HF; intro a HF
   replace HF := HF.as (t := 19) (u := vB ((8 + ((b.body).length) + 4) % 256 : Nat)) rfl (u8_mod (8 + ((b.body).length) + 4))
   refine fp HF 2 2 [(21, vI (Int.fdiv ((8 + ((b.body).length) + 4 : Nat) : Int) (2 ^ (min (8 : Int).toNat (IntKind.i64).bits)))), (20, vI (8 + ((b.body).length) + 4 : Nat))] ?_; clear HF; intro a HF
   replace HF := HF.as (t := 21) (u := vI ((8 + ((b.body).length) + 4) / 256 : Nat)) rfl (fdiv_nat .i64 (8 + ((b.body).length) + 4) (j := 8) (q := 256) rfl rfl)
   refine fp HF 1 4 [(22, vB (IntKind.u8.wrap (((8 + ((b.body).length) + 4) / 256 : Nat) : Int)))] ?_; clear HF; intro a HF
   replace HF := HF.as (t := 22) (u := vB (((8 + ((b.body).length) + 4) / 256) % 256 : Nat)) rfl (u8_mod ((8 + ((b.body).length) + 4) / 256))
   refine fy HF HM 5 rfl rfl rfl (v := vP 0 0) (Yl.indexAddrA (ad := ⟨0, 0, none⟩) (m := 2) (y := 0) (sz := 1) rfl rfl rfl (by kernel_rfl) (by decide)) ?_; clear HF; intro a HF
   refine fy HF HM 6 rfl rfl rfl (v := vB 113) (Yl.load1 rfl rfl (by kernel_rfl) (fun _ h => (hL.mem h hB).magic0)) ?_; clear HF; intro a HF
   refine fy HF HM 7 rfl rfl rfl (v := vP 0 1) (Yl.indexAddrA (ad := ⟨0, 0, none⟩) (m := 2) (y := 1) (sz := 1) rfl rfl rfl (by kernel_rfl) (by decide)) ?_; clear HF; intro a HF
   refine fy HF HM 8 rfl rfl rfl (v := vB 116) (Yl.load1 rfl rfl (by kernel_rfl) (fun _ h => (hL.mem h hB).magic1)) ?_; clear HF; intro a HF
   refine fp HF 1 9 [(27, vP g1 0)] ?_; clear HF; intro a HF
   refine fy HF HM 10 rfl rfl rfl (v := vB b.kind) (Yl.load1 rfl rfl (by kernel_rfl) (fun _ h => h.cell (i := 1) rfl (rfl))) ?_; clear HF; intro a HF
   refine from_op HF (i := 11) rfl rfl ?_
   refine e_slice HF HM (vs := [(0, vB ((8 + ((b.body).length) + 4) % 256 : Nat)), (1, vB (((8 + ((b.body).length) + 4) / 256) % 256 : Nat)), (2, vB 0), (3, vB 0), (4, vB 113), (5, vB 116), (6, vB 1), (7, vB b.kind)]) (cs := #[vB ((8 + ((b.body).length) + 4) % 256 : Nat), vB (((8 + ((b.body).length) + 4) / 256) % 256 : Nat), vB 0, vB 0, vB 113, vB 116, vB 1, vB b.kind]) rfl ei_u8 (by decide) rfl (by kernel_rfl) rfl (by decide) ?_
   clear HF HM; intro a w29 g29 HF HM
   refine fp HF 1 12 [(6, vS g29 8 8)] ?_; clear HF; intro a HF
   refine from_done rfl ?_
   replace HF := HF.to [(6, vS g29 8 8), (17, .bool false), (5, vI (8 + ((b.body).length) + 4 : Nat)), (4, .slice A11 ((b.body).length) c11), (9, .bool false), (3, vI 0), (2, .slice none 0 0), (1, vP g1 0)]
   refine wp_seq (from_start ?_)
   refine fp HF 2 0 [(31, .slice A11 ((b.body).length) c11), (30, vS g29 8 8)] ?_; clear HF; intro a HF
   refine from_op HF (i := 2) rfl rfl ?_
   replace HM := HM.blkRow (i := 0) (n := 8) (size := 1) rfl rfl (by decide)
   refine e_append HF HM (i := 0) rfl ei_u8 rfl rfl rfl (news := (b.body.map B8)) (HM.rd (i := 1) rfl) (one_B8 _) (by omega) (by omega) rfl (by decide) ?_
   clear HF HM; intro a w32 A32 c32 HF HM hc32
   rw [show ((#[vB ((8 + ((b.body).length) + 4) % 256 : Nat), vB (((8 + ((b.body).length) + 4) / 256) % 256 : Nat), vB 0, vB 0, vB 113, vB 116, vB 1, vB b.kind]).toList) ++ (b.body.map B8) = b.raw.map B8 from raw_cells (by omega)] at HM
   refine from_op HF (i := 3) rfl rfl ?_
   refine e_call HF (vs := [.slice A32 (8 + (b.body).length) c32]) rfl (by kernel_rfl) (by kernel_rfl) rfl (by decide) (seal_any _ _ _ b.raw B _ (hL.mem HM hB) (HM.le hB) (HM.rd (i := 0) rfl) (raw_length b) (by omega) (raw_lt hok)) ?_
   rintro _ w33 ⟨⟨A33, c33, rfl, ho, hc33⟩, hbw⟩
   refine ⟨_, rfl, ?_⟩
   replace HM := HM.callRow hbw ho
   clear HF; intro a HF
   refine fp HF 4 4 [(3, vI 0), (2, .slice A33 ((sealL b.raw).length) c33), (35, vI 0), (34, .slice A33 ((sealL b.raw).length) c33)] ?_; clear HF; intro a HF
   refine from_done rfl ?_
   replace HM := HM.picks (fs' := [.row (.slice A33 ((sealL b.raw).length) c33) ((sealL b.raw).length) ((sealL b.raw).map B8) 5 1, .row (.slice A11 ((b.body).length) c11) ((b.body).length) (b.body.map B8) 5 1, .blk g1 (b.cells A c) 27]) [0, 2, 3] (by decide) rfl
   refine wp_ret ?_
   have herr : b.err = 0 := by unfold Bk.err; rw [if_neg (by simp [hfit]), if_neg (by omega)]
   exact ret2 rfl HF (.tmp HF rfl) (.tmp HF rfl) ((by rw [herr, bk_out herr]; exact ⟨⟨_, _, rfl, HM.own (i := 0) rfl, hc33⟩, HM.below⟩))
set_option maxRecDepth 100000 in
set_option maxHeartbeats 4000000 in
theorem bcheck_any (b : Bk) (hok : b.Ok) (A : Option Addr) (c B : Nat) (w : World) (hL : LaidX B w) (hB : B ≤ w.heap.size) (hr : Rd w w.heap.size 11 A b.evs.length (b.evs.flatMap evL)) (hn : b.evs.length ≤ 1000000) :
    Calls Tryd.prog 19 #[.agg (b.cells A c)] w (Is w (.int .i64 (b.err : Int))) := by
 refine calls_enter (vs := [.agg (b.cells A c)]) Tryd.func19 rfl rfl (by kernel_rfl) (σ0 := [(0, .agg (b.cells A c))]) rfl ?_
 intro a HF
 have HM := Mem.start w
 refine wp_seq (from_start ?_)
 refine from_op HF (i := 0) rfl rfl ?_
 refine e_box HF HM (cs := (b.cells A c)) rfl rfl rfl rfl (by decide) ?_
 clear HF HM; intro a w1 g1 HF HM
 refine fp HF 1 1 [(2, vI 0)] ?_; clear HF; intro a HF
 refine from_done rfl ?_
 refine wp_seq (from_start ?_)
 refine fy HF HM 0 rfl rfl rfl (v := .agg (b.cells A c)) (Yl.loadS rfl rfl si_bk rfl (fun _ h => range_of_block (h.blk (i := 0) rfl))) ?_; clear HF; intro a HF
 refine from_op HF (i := 1) rfl rfl ?_
 refine e_call HF (vs := [.agg (b.cells A c)]) rfl (by kernel_rfl) (by kernel_rfl) rfl (by decide) (bwrite_any b hok A c B _ (hL.mem HM hB) (HM.le hB) (HM.old hr) hn) ?_
 rintro _ w7 ⟨⟨A7, c7, rfl, ho, hc7⟩, hbw⟩
 refine ⟨_, rfl, ?_⟩
 replace HM := HM.callRow hbw ho
 clear HF; intro a HF
 refine fp HF 5 2 [(4, vI b.err), (3, .slice A7 ((b.out).length) c7), (9, vI b.err), (8, .slice A7 ((b.out).length) c7), (5, .tuple #[.slice A7 ((b.out).length) c7, vI b.err])] ?_; clear HF; intro a HF
 refine from_done rfl ?_
 replace HM := HM.picks (fs' := []) [] (by decide) rfl
 refine wp_seq (from_start ?_)
 refine fp HF 2 0 [(2, vI b.err), (10, vI b.err)] ?_; clear HF; intro a HF
 refine from_done rfl ?_
 refine wp_ret ?_
 exact ret1 rfl HF (.tmp HF rfl) (⟨rfl, HM.below⟩)
set_option maxRecDepth 100000 in
set_option maxHeartbeats 4000000 in
theorem bsize_any (b : Bk) (hok : b.Ok) (A : Option Addr) (c B : Nat) (w : World) (hL : LaidX B w) (hB : B ≤ w.heap.size) (hr : Rd w w.heap.size 11 A b.evs.length (b.evs.flatMap evL)) (hn : b.evs.length ≤ 1000000) :
    Calls Tryd.prog 18 #[.agg (b.cells A c)] w (Is w (.tuple #[.int .i64 (b.out.length : Int), .int .i64 (b.err : Int)])) := by
 refine calls_enter (vs := [.agg (b.cells A c)]) Tryd.func18 rfl rfl (by kernel_rfl) (σ0 := [(0, .agg (b.cells A c))]) rfl ?_
 intro a HF
 have HM := Mem.start w
 refine wp_seq (from_start ?_)
 refine from_op HF (i := 0) rfl rfl ?_
 refine e_box HF HM (cs := (b.cells A c)) rfl rfl rfl rfl (by decide) ?_
 clear HF HM; intro a w1 g1 HF HM
 refine fp HF 2 1 [(3, vI 0), (2, vI 0)] ?_; clear HF; intro a HF
 refine from_done rfl ?_
 refine wp_seq (from_start ?_)
 refine fy HF HM 0 rfl rfl rfl (v := .agg (b.cells A c)) (Yl.loadS rfl rfl si_bk rfl (fun _ h => range_of_block (h.blk (i := 0) rfl))) ?_; clear HF; intro a HF
 refine from_op HF (i := 1) rfl rfl ?_
 refine e_call HF (vs := [.agg (b.cells A c)]) rfl (by kernel_rfl) (by kernel_rfl) rfl (by decide) (bwrite_any b hok A c B _ (hL.mem HM hB) (HM.le hB) (HM.old hr) hn) ?_
 rintro _ w8 ⟨⟨A8, c8, rfl, ho, hc8⟩, hbw⟩
 refine ⟨_, rfl, ?_⟩
 replace HM := HM.callRow hbw ho
 clear HF; intro a HF
 refine fp HF 5 2 [(5, vI b.err), (4, .slice A8 ((b.out).length) c8), (10, vI b.err), (9, .slice A8 ((b.out).length) c8), (6, .tuple #[.slice A8 ((b.out).length) c8, vI b.err])] ?_; clear HF; intro a HF
 refine from_done rfl ?_
 replace HM := HM.picks (fs' := [.row (.slice A8 ((b.out).length) c8) ((b.out).length) (b.out.map B8) 5 1]) [0] (by decide) rfl
 refine wp_seq (from_start ?_)
 refine fp HF 1 0 [(11, .slice A8 ((b.out).length) c8)] ?_; clear HF; intro a HF
 refine fy HF HM 1 rfl rfl rfl (Yl.len rfl rfl (by kernel_rfl)) ?_; clear HF; intro a HF
 refine fp HF 3 2 [(3, vI b.err), (2, vI ((b.out).length : Nat)), (13, vI b.err)] ?_; clear HF; intro a HF
 refine from_done rfl ?_
 replace HM := HM.picks (fs' := []) [] (by decide) rfl
 refine wp_ret ?_
 exact ret2 rfl HF (.tmp HF rfl) (.tmp HF rfl) (⟨rfl, HM.below⟩)
set_option maxRecDepth 100000 in
set_option maxHeartbeats 4000000 in
theorem ptake_any (W w : World) (gb gk : Nat) (A : Option Addr) (n c : Nat) (l : List Nat) (okb : Bool) (most : Nat) (fr : List Fact) (hl : ∀ b ∈ l, b < 256) (hln : n = l.length) (hn : n ≤ 1000000000) (hr0 : Rd W W.heap.size 1 A n (l.map B8)) (hc0 : n ≤ c) (hmost : most ≤ 281474976710657)
    (HM : Mem W w (.blk gb #[.slice A n c] 22 :: .blk gk #[.bool okb] 4 :: fr)) :
    Calls Tryd.prog 44 #[.int .i64 (most : Int), .pointer (some ⟨gb, 0, none⟩), .pointer (some ⟨gk, 0, none⟩)] w (TakeIs W gb gk l okb most fr) := by
 have hr : Rd W W.heap.size 1 A l.length (l.map B8) := hln ▸ hr0
 have hc : l.length ≤ c := hln ▸ hc0
 refine calls_enter (vs := [vI most, vP gb 0, vP gk 0]) Tryd.func44 rfl rfl (by kernel_rfl) (σ0 := [(0, vI most), (1, vP gb 0), (2, vP gk 0)]) rfl ?_
 intro a HF
 refine wp_seq (from_start ?_)
 refine fp HF 1 0 [(4, vI 0)] ?_; clear HF; intro a HF
 refine from_done rfl ?_
 have hvl := vread_len l
 have hvb := vread_bound l hl
 have htv := tkVal_le most l
 refine wp_seq (from_start ?_)
 refine fy HF HM 0 rfl rfl rfl (Yl.load1 rfl rfl (by kernel_rfl) (fun _ h => h.cell (i := 0) rfl rfl)) ?_; clear HF; intro a HF
 refine from_op HF (i := 1) rfl rfl ?_
 refine e_call HF (vs := [.slice A n c]) rfl (by kernel_rfl) (by kernel_rfl) rfl (by decide) (read_any A n c l _ (hln ▸ HM.old hr) hl (by omega)) ?_
 rintro _ w10 ⟨rfl, hbw⟩
 refine ⟨_, rfl, ?_⟩
 replace HM := HM.call hbw
 clear HF; intro a HF
 refine fp HF 7 2 [(7, vI ((vread l).2.2)), (6, vI ((vread l).2.1)), (5, vQ ((vread l).1)), (13, vI ((vread l).2.2)), (12, vI ((vread l).2.1)), (11, vQ ((vread l).1)), (8, .tuple #[vQ ((vread l).1), vI ((vread l).2.1), vI ((vread l).2.2)])] ?_; clear HF; intro a HF
 refine from_done rfl ?_
 refine wp_seq (from_start ?_)
 refine fy HF HM 0 rfl rfl rfl (Yl.load1 rfl rfl (by kernel_rfl) (fun _ h => h.cell (i := 1) rfl rfl)) ?_; clear HF; intro a HF
 refine fp HF 1 1 [(15, .bool okb)] ?_; clear HF; intro a HF
 rcases Bool.eq_false_or_eq_true (okb) with hb15 | hb15
 ·have HF := HF.on 15 hb15
  refine fp HF 4 2 [(19, .bool (((vread l).2.2 : Int) == (0 : Int))), (18, .bool (((vread l).2.2 : Int) == (0 : Int))), (17, .bool (((vread l).2.2 : Int) == (0 : Int))), (16, vI ((vread l).2.2))] ?_; clear HF; intro a HF
  rcases Bool.eq_false_or_eq_true (((vread l).2.2 : Int) == (0 : Int)) with hb19 | hb19
  ·have HF := HF.on 19 hb19
   have hd19 := eq_of_beq hb19
   refine fp HF 3 6 [(22, vQ (IntKind.u64.wrap (most : Int))), (21, vI most), (20, vQ ((vread l).1))] ?_; clear HF; intro a HF
   replace HF := HF.as (t := 22) (u := vQ most) rfl (u64_nat rfl (by omega))
   refine fp HF 2 9 [(24, .bool (decide (((vread l).1 : Int) ≤ (most : Int)))), (23, .bool (decide (((vread l).1 : Int) ≤ (most : Int))))] ?_; clear HF; intro a HF
   refine from_op HF (i := 11) rfl rfl ?_
   refine e_store HF HM (i := 1) (cs := #[.bool okb]) rfl rfl rfl rfl (by kernel_rfl) rfl rfl (by simp) ?_
   clear HM; intro w2_11 HM
   refine from_done rfl ?_
   replace HF := HF.to [(6, vI ((vread l).2.1)), (5, vQ ((vread l).1)), (4, vI 0), (0, vI most), (1, vP gb 0)]
   refine wp_seq (from_start ?_)
   refine fy HF HM 0 rfl rfl rfl (Yl.load1 rfl rfl (by kernel_rfl) (fun _ h => h.cell (i := 0) rfl rfl)) ?_; clear HF; intro a HF
   refine fp HF 1 1 [(26, vI ((vread l).2.1))] ?_; clear HF; intro a HF
   refine fy HF HM 2 rfl rfl rfl (v := .slice (if c = (vread l).2.1 then A else A.map (·.add ((vread l).2.1 * 1))) (n - (vread l).2.1) (c - (vread l).2.1)) (Yl.sliceFrom ei_u8 (j := (vread l).2.1) rfl rfl rfl (by omega)) ?_; clear HF; intro a HF
   refine from_op HF (i := 3) rfl rfl ?_
   refine e_store HF HM (i := 0) (cs := #[.slice A n c]) rfl rfl rfl rfl (by kernel_rfl) rfl rfl (by simp) ?_
   clear HM; intro w3_3 HM
   refine from_done rfl ?_
   refine wp_seq (from_start ?_)
   refine fp HF 3 0 [(30, vQ (IntKind.u64.wrap (most : Int))), (29, vI most), (28, vQ ((vread l).1))] ?_; clear HF; intro a HF
   replace HF := HF.as (t := 30) (u := vQ most) rfl (u64_nat rfl (by omega))
   refine fy HF HM 3 rfl rfl rfl (v := vQ (if (most : Int) < ((vread l).1 : Int) then (most : Int) else ((vread l).1 : Int))) (Yl.min rfl rfl rfl) ?_; clear HF; intro a HF
   replace HF := HF.as (t := 31) (u := vQ (tkVal most l)) rfl (by rw [tkVal_min])
   refine fp HF 1 4 [(32, vI (IntKind.i64.wrap (tkVal most l : Int)))] ?_; clear HF; intro a HF
   replace HF := HF.as (t := 32) (u := vI (tkVal most l : Nat)) rfl (i64_nat rfl (by omega))
   refine fp HF 1 5 [(4, vI (tkVal most l : Nat))] ?_; clear HF; intro a HF
   refine from_done rfl ?_
   refine wp_ret ?_
   replace HM := HM.picksT (fs' := (.blk gb #[.slice (if c = (vread l).2.1 then A else A.map (·.add ((vread l).2.1 * 1))) (n - (vread l).2.1) (c - (vread l).2.1)] 22 :: .blk gk #[.bool (decide (((vread l).1 : Int) ≤ (most : Int)))] 4 :: fr)) 2 [0, 1] (by decide) (by decide) rfl
   exact ret1 rfl HF (.tmp HF rfl) (takeIs_of hr hc (by rw [hb15, Bool.true_and]; unfold tkOk; rw [Bool.eq_iff_iff]; simp only [decide_eq_true_eq]; omega) hln HM)
  ·have HF := HF.on 19 hb19
   have hd19 := ne_of_beq_false hb19
   refine fp HF 5 6 [(24, .bool false), (23, undef), (22, undef), (21, undef), (20, undef)] ?_; clear HF; intro a HF
   refine from_op HF (i := 11) rfl rfl ?_
   refine e_store HF HM (i := 1) (cs := #[.bool okb]) rfl rfl rfl rfl (by kernel_rfl) rfl rfl (by simp) ?_
   clear HM; intro w2_11 HM
   refine from_done rfl ?_
   replace HF := HF.to [(6, vI ((vread l).2.1)), (5, vQ ((vread l).1)), (4, vI 0), (0, vI most), (1, vP gb 0)]
   refine wp_seq (from_start ?_)
   refine fy HF HM 0 rfl rfl rfl (Yl.load1 rfl rfl (by kernel_rfl) (fun _ h => h.cell (i := 0) rfl rfl)) ?_; clear HF; intro a HF
   refine fp HF 1 1 [(26, vI ((vread l).2.1))] ?_; clear HF; intro a HF
   refine fy HF HM 2 rfl rfl rfl (v := .slice (if c = (vread l).2.1 then A else A.map (·.add ((vread l).2.1 * 1))) (n - (vread l).2.1) (c - (vread l).2.1)) (Yl.sliceFrom ei_u8 (j := (vread l).2.1) rfl rfl rfl (by omega)) ?_; clear HF; intro a HF
   refine from_op HF (i := 3) rfl rfl ?_
   refine e_store HF HM (i := 0) (cs := #[.slice A n c]) rfl rfl rfl rfl (by kernel_rfl) rfl rfl (by simp) ?_
   clear HM; intro w3_3 HM
   refine from_done rfl ?_
   refine wp_seq (from_start ?_)
   refine fp HF 3 0 [(30, vQ (IntKind.u64.wrap (most : Int))), (29, vI most), (28, vQ ((vread l).1))] ?_; clear HF; intro a HF
   replace HF := HF.as (t := 30) (u := vQ most) rfl (u64_nat rfl (by omega))
   refine fy HF HM 3 rfl rfl rfl (v := vQ (if (most : Int) < ((vread l).1 : Int) then (most : Int) else ((vread l).1 : Int))) (Yl.min rfl rfl rfl) ?_; clear HF; intro a HF
   replace HF := HF.as (t := 31) (u := vQ (tkVal most l)) rfl (by rw [tkVal_min])
   refine fp HF 1 4 [(32, vI (IntKind.i64.wrap (tkVal most l : Int)))] ?_; clear HF; intro a HF
   replace HF := HF.as (t := 32) (u := vI (tkVal most l : Nat)) rfl (i64_nat rfl (by omega))
   refine fp HF 1 5 [(4, vI (tkVal most l : Nat))] ?_; clear HF; intro a HF
   refine from_done rfl ?_
   refine wp_ret ?_
   replace HM := HM.picksT (fs' := (.blk gb #[.slice (if c = (vread l).2.1 then A else A.map (·.add ((vread l).2.1 * 1))) (n - (vread l).2.1) (c - (vread l).2.1)] 22 :: .blk gk #[.bool false] 4 :: fr)) 2 [0, 1] (by decide) (by decide) rfl
   exact ret1 rfl HF (.tmp HF rfl) (takeIs_of hr hc (by rw [tkOk_false (by omega), Bool.and_false]) hln HM)
 ·have HF := HF.on 15 hb15
  refine fp HF 9 2 [(24, .bool false), (23, undef), (22, undef), (21, undef), (20, undef), (19, .bool false), (18, .bool false), (17, undef), (16, undef)] ?_; clear HF; intro a HF
  refine from_op HF (i := 11) rfl rfl ?_
  refine e_store HF HM (i := 1) (cs := #[.bool okb]) rfl rfl rfl rfl (by kernel_rfl) rfl rfl (by simp) ?_
  clear HM; intro w2_11 HM
  refine from_done rfl ?_
  replace HF := HF.to [(6, vI ((vread l).2.1)), (5, vQ ((vread l).1)), (4, vI 0), (0, vI most), (1, vP gb 0)]
  refine wp_seq (from_start ?_)
  refine fy HF HM 0 rfl rfl rfl (Yl.load1 rfl rfl (by kernel_rfl) (fun _ h => h.cell (i := 0) rfl rfl)) ?_; clear HF; intro a HF
  refine fp HF 1 1 [(26, vI ((vread l).2.1))] ?_; clear HF; intro a HF
  refine fy HF HM 2 rfl rfl rfl (v := .slice (if c = (vread l).2.1 then A else A.map (·.add ((vread l).2.1 * 1))) (n - (vread l).2.1) (c - (vread l).2.1)) (Yl.sliceFrom ei_u8 (j := (vread l).2.1) rfl rfl rfl (by omega)) ?_; clear HF; intro a HF
  refine from_op HF (i := 3) rfl rfl ?_
  refine e_store HF HM (i := 0) (cs := #[.slice A n c]) rfl rfl rfl rfl (by kernel_rfl) rfl rfl (by simp) ?_
  clear HM; intro w3_3 HM
  refine from_done rfl ?_
  refine wp_seq (from_start ?_)
  refine fp HF 3 0 [(30, vQ (IntKind.u64.wrap (most : Int))), (29, vI most), (28, vQ ((vread l).1))] ?_; clear HF; intro a HF
  replace HF := HF.as (t := 30) (u := vQ most) rfl (u64_nat rfl (by omega))
  refine fy HF HM 3 rfl rfl rfl (v := vQ (if (most : Int) < ((vread l).1 : Int) then (most : Int) else ((vread l).1 : Int))) (Yl.min rfl rfl rfl) ?_; clear HF; intro a HF
  replace HF := HF.as (t := 31) (u := vQ (tkVal most l)) rfl (by rw [tkVal_min])
  refine fp HF 1 4 [(32, vI (IntKind.i64.wrap (tkVal most l : Int)))] ?_; clear HF; intro a HF
  replace HF := HF.as (t := 32) (u := vI (tkVal most l : Nat)) rfl (i64_nat rfl (by omega))
  refine fp HF 1 5 [(4, vI (tkVal most l : Nat))] ?_; clear HF; intro a HF
  refine from_done rfl ?_
  refine wp_ret ?_
  replace HM := HM.picksT (fs' := (.blk gb #[.slice (if c = (vread l).2.1 then A else A.map (·.add ((vread l).2.1 * 1))) (n - (vread l).2.1) (c - (vread l).2.1)] 22 :: .blk gk #[.bool false] 4 :: fr)) 2 [0, 1] (by decide) (by decide) rfl
  exact ret1 rfl HF (.tmp HF rfl) (takeIs_of hr hc (by rw [hb15, Bool.false_and]) hln HM)
end Go.Proofs.YtnakabnmjnfpcaaDoor

set_option linter.all false
namespace Go.Proofs.YtnakabnmjnfpcaaDoor
open Go.RowKit
theorem parseR1 {l : List Nat} {es : List Ev} {L er : Nat} (h3 : parse3 l = true) (h0 : 0 < tkVal 4096 (tkRest (tkRest l)))
    (hq : readR ⟨(tkVal 281474976710656 (tkRest (tkRest (tkRest l))) : Int), (tkVal 281474976710656 (tkRest (tkRest (tkRest (tkRest l)))) : Int)⟩ (tkVal 63 l) (tkVal 4096 (tkRest (tkRest l)) : Int) (tkRest (tkRest (tkRest (tkRest (tkRest l))))) = (es, L, er)) (her : er = 0) :
    parseEvs l = parseRows (tkVal 63 l) (tkVal 281474976710656 (tkRest l)) (tkRest (tkRest (tkRest l))) (es, L, 0) := by
  rw [parseEvs_full h3 h0 hq, her]
set_option maxRecDepth 100000 in
set_option maxHeartbeats 4000000 in
theorem parse_any (k : Nat) (hk : k = 1 ∨ k = 2) (A : Option Addr) (n c : Nat) (l : List Nat) (B : Nat) (w : World) (hL : LaidX B w) (hB : B ≤ w.heap.size) (hr : Rd w w.heap.size 1 A n (l.map B8)) (hc : n ≤ c) (hln : n = l.length) (hn : n ≤ 100000000) (hl : ∀ b ∈ l, b < 256) :
    Calls Tryd.prog 27 #[.int .u8 (k : Int), .slice A n c] w (ParseIs w (parseR k l)) := by
 refine calls_enter (vs := [vB k, .slice A n c]) Tryd.func27 rfl rfl (by kernel_rfl) (σ0 := [(0, vB k), (1, .slice A n c)]) rfl ?_
 intro a HF
 have HM := Mem.start w
 refine wp_seq (from_start ?_)
 refine from_op HF (i := 0) rfl rfl ?_
 refine e_box HF HM (cs := #[.slice A n c]) rfl rfl rfl rfl (by decide) ?_
 clear HF HM; intro a w3 g3 HF HM
 refine from_op HF (i := 1) rfl rfl ?_
 refine e_alloc HF HM (cs := #[vB 0, vB 0, vI 0, vI 0, .slice none 0 0]) rfl (by kernel_rfl) rfl (by decide) ?_
 clear HF HM; intro a w4 g4 HF HM
 refine fp HF 1 2 [(5, .bool false)] ?_; clear HF; intro a HF
 refine from_done rfl ?_
 refine wp_seq (from_start ?_)
 refine from_op HF (i := 0) rfl rfl ?_
 refine e_alloc HF HM (cs := #[.bool false]) rfl (by kernel_rfl) rfl (by decide) ?_
 clear HF HM; intro a w6 g6 HF HM
 refine from_op HF (i := 1) rfl rfl ?_
 refine e_store HF HM (i := 0) (cs := #[.bool false]) rfl rfl rfl rfl (by kernel_rfl) rfl rfl (by simp) ?_
 clear HM; intro w1_1 HM
 refine from_done rfl ?_
 refine wp_seq (from_start ?_)
 refine fy HF HM 0 rfl rfl rfl (v := .func (.func 44) #[] #[vP g3 0, vP g6 0]) (Yl.makeFunc (fst := []) (caps := [vP g3 0, vP g6 0]) rfl rfl rfl) ?_; clear HF; intro a HF
 refine fp HF 1 1 [(7, .func (.func 44) #[] #[vP g3 0, vP g6 0])] ?_; clear HF; intro a HF
 refine from_done rfl ?_
 refine wp_seq (from_start ?_)
 refine fp HF 1 0 [(15, vB k)] ?_; clear HF; intro a HF
 refine fy HF HM 1 rfl rfl rfl (v := .agg #[vB k, vB 0, vI 0, vI 0, .slice none 0 0]) (Yl.build (vs := [(0, vB k)]) rfl (by kernel_rfl) (by kernel_rfl)) ?_; clear HF; intro a HF
 refine from_op HF (i := 2) rfl rfl ?_
 refine e_alloc HF HM (cs := #[vB 0, vB 0, vI 0, vI 0, .slice none 0 0]) rfl (by kernel_rfl) rfl (by decide) ?_
 clear HF HM; intro a w8 g8 HF HM
 refine from_op HF (i := 3) rfl rfl ?_
 refine e_storeAll HF HM (i := 0) (cs := #[vB 0, vB 0, vI 0, vI 0, .slice none 0 0]) (ds := #[vB k, vB 0, vI 0, vI 0, .slice none 0 0]) rfl rfl rfl rfl si_bk rfl rfl (by simp [Value.oneCell']) rfl ?_
 clear HM; intro w3_3 HM
 refine from_done rfl ?_
 refine wp_seq (wp_seq (from_start ?_))
 refine fp HF 2 0 [(18, .bool ((k : Int) == (2 : Int))), (17, vB k)] ?_; clear HF; intro a HF
 refine from_done rfl ?_
 rcases Bool.eq_false_or_eq_true ((k : Int) == (2 : Int)) with hb18 | hb18
 ·have HF := HF.on 18 hb18
  have hd18 := eq_of_beq hb18
  obtain rfl : k = 2 := by omega
  refine cond_true HF rfl (wp_seq (from_start ?_))
  refine fp HF 1 0 [(19, .func (.func 44) #[] #[vP g3 0, vP g6 0])] ?_; clear HF; intro a HF
  refine from_op HF (i := 1) rfl rfl ?_
  replace HM := HM.picks (fs' := [.blk g3 #[.slice A n c] 22, .blk g6 #[.bool true] 4, .blk g8 #[vB (2 : Nat), vB 0, vI 0, vI 0, .slice none 0 0] 27, .blk g4 #[vB 0, vB 0, vI 0, vI 0, .slice none 0 0] 27]) [3, 1, 0, 2] (by decide) rfl
  have hl1 := tk_rest_lt hl
  refine e_callv HF (f := 44) (vs := [vI 281474976710657]) (fst := []) (caps := [vP g3 0, vP g6 0]) rfl rfl rfl (by kernel_rfl) rfl (by decide) (ptake_any w _ g3 g6 A n c l true 281474976710657 [.blk g8 #[vB (2 : Nat), vB 0, vI 0, vI 0, .slice none 0 0] 27, .blk g4 #[vB 0, vB 0, vI 0, vI 0, .slice none 0 0] 27] hl hln (by omega) hr hc (by omega) HM) ?_
  rintro _ w20 ⟨rfl, Aq1, cq1, hr1, hc1, hm⟩
  refine ⟨_, rfl, ?_⟩
  replace HM := hm
  clear HF; intro a HF
  have ht0 := tkVal_le 281474976710657 l
  have hs0 := tkRest_le l
  refine fp HF 1 2 [(21, vP g8 3)] ?_; clear HF; intro a HF
  refine from_op HF (i := 3) rfl rfl ?_
  refine e_store HF HM (i := 2) (cs := #[vB (2 : Nat), vB 0, vI 0, vI 0, .slice none 0 0]) rfl rfl rfl rfl (by kernel_rfl) rfl rfl (by simp) ?_
  clear HM; intro w5_3 HM
  refine from_done rfl ?_
  refine cut_seq (fun aS wS => Fr aS 99 [] [(5, .bool ((parseEnd l).isSome)), (18, .bool true), (8, vP g8 0), (7, .func (.func 44) #[] #[vP g3 0, vP g6 0]), (6, vP g6 0), (4, vP g4 0), (3, vP g3 0), (0, vB (2 : Nat))] ∧ Mem w wS [.blk g3 #[.slice Aq1 ((tkRest l).length) cq1] 22, .blk g6 #[.bool (true && tkOk 281474976710657 l)] 4, .blk g8 #[vB (2 : Nat), vB 0, vI 0, vI (tkVal 281474976710657 l), .slice none 0 0] 27, .blk g4 #[vB (2 : Nat), vB 0, vI 0, vI (tkVal 281474976710657 l), .slice none 0 0] 27]) ?_ ?_
  ·
   refine any_start (by kernel_rfl) (fun wS => Mem w wS [.blk g3 #[.slice Aq1 ((tkRest l).length) cq1] 22, .blk g6 #[.bool (true && tkOk 281474976710657 l)] 4, .blk g8 #[vB (2 : Nat), vB 0, vI 0, vI (tkVal 281474976710657 l), .slice none 0 0] 27]) [] ?_
   replace HM := HM.drew
   have HS := HM.picks (fs' := [.blk g3 #[.slice Aq1 ((tkRest l).length) cq1] 22, .blk g6 #[.bool (true && tkOk 281474976710657 l)] 4, .blk g8 #[vB (2 : Nat), vB 0, vI 0, vI (tkVal 281474976710657 l), .slice none 0 0] 27]) [0, 1, 2] (by decide) rfl
   refine ay HF HS 0 rfl rfl rfl (v := .agg #[vB (2 : Nat), vB 0, vI 0, vI (tkVal 281474976710657 l), .slice none 0 0]) (Yl.loadS rfl rfl si_bk rfl (fun _ h => range_of_block (h.blk (i := 2) rfl))) ?_; clear HF; intro a HF
   refine ay HF HS 1 rfl rfl rfl (Yl.load1 rfl rfl (by kernel_rfl) (fun _ h => h.cell (i := 1) rfl rfl)) ?_; clear HF; intro a HF
   refine ap HF (fun _ => HS) [2] #[true, true, true, false, false, false, false, false, false, false, false, false, false] [(24, .bool (true && tkOk 281474976710657 l))] ?_; clear HF; intro a HF
   rcases Bool.eq_false_or_eq_true ((true && tkOk 281474976710657 l)) with hb24 | hb24
   ·have HF := HF.on 24 hb24
    refine ay HF HS 3 rfl rfl rfl (Yl.load1 rfl rfl (by kernel_rfl) (fun _ h => h.cell (i := 0) rfl rfl)) ?_; clear HF; intro a HF
    refine ay HF HS 4 rfl rfl rfl (Yl.len rfl rfl (by kernel_rfl)) ?_; clear HF; intro a HF
    refine ap HF (fun _ => HS) [5, 6, 7] #[true, true, true, true, true, true, true, true, false, false, false, false, false] [(29, .bool ((((tkRest l).length : Nat) : Int) == (0 : Int))), (28, .bool ((((tkRest l).length : Nat) : Int) == (0 : Int))), (27, .bool ((((tkRest l).length : Nat) : Int) == (0 : Int)))] ?_; clear HF; intro a HF
    rcases Bool.eq_false_or_eq_true ((((tkRest l).length : Nat) : Int) == (0 : Int)) with hb29 | hb29
    ·have HF := HF.on 29 hb29
     have hd29 := eq_of_beq hb29
     refine ay HF HS 8 rfl rfl rfl (v := .agg #[vB (2 : Nat), vB 0, vI 0, vI (tkVal 281474976710657 l), .slice none 0 0]) (Yl.loadS rfl rfl si_bk rfl (fun _ h => range_of_block (h.blk (i := 2) rfl))) ?_; clear HF; intro a HF
     refine any_all [9] (by kernel_rfl) rfl ?_
     refine all_cons ?_ all_nil
     refine any_op HF (i := 9) rfl rfl ?_
     refine e_call HF (vs := [.agg #[vB (2 : Nat), vB 0, vI 0, vI (tkVal 281474976710657 l), .slice none 0 0]]) rfl (by kernel_rfl) (by kernel_rfl) rfl (by decide) (fits_any ⟨2, 0, 0, (tkVal 281474976710657 l : Int), []⟩ (endOk ht0) none 0 B _ (hL.mem HM hB) (HM.le hB) Rd.nil (by show 0 ≤ _; omega)) ?_
     rintro _ w31 ⟨rfl, hbw⟩
     refine ⟨_, rfl, ?_⟩
     replace HM := HM.call hbw
     clear HF; intro a HF
     refine keepS (HM.picks [0, 1, 2] (by decide) rfl) (fun HS => ?_)
     refine ap HF (fun _ => HS) [10] #[true, true, true, true, true, true, true, true, true, true, true, false, false] [(32, .bool (Bk.fits ⟨2, 0, 0, (tkVal 281474976710657 l : Int), []⟩))] ?_; clear HF; intro a HF
     refine any_all [11] (by kernel_rfl) rfl ?_
     refine all_cons ?_ all_nil
     refine any_op HF (i := 11) rfl rfl ?_
     refine e_storeAll HF HM (i := 3) (cs := #[vB 0, vB 0, vI 0, vI 0, .slice none 0 0]) (ds := #[vB (2 : Nat), vB 0, vI 0, vI (tkVal 281474976710657 l), .slice none 0 0]) rfl rfl rfl rfl si_bk rfl rfl (by simp [Value.oneCell']) rfl ?_
     clear HM; intro w6_11 HM
     refine keepS (HM.picks [0, 1, 2] (by decide) rfl) (fun HS => ?_)
     refine ap HF (fun _ => HS) [12] #[true, true, true, true, true, true, true, true, true, true, true, true, true] [(5, .bool (Bk.fits ⟨2, 0, 0, (tkVal 281474976710657 l : Int), []⟩))] ?_; clear HF; intro a HF
     refine any_done (by kernel_rfl) ?_
     replace HF := HF.to [(5, .bool (Bk.fits ⟨2, 0, 0, (tkVal 281474976710657 l : Int), []⟩)), (18, .bool true), (8, vP g8 0), (7, .func (.func 44) #[] #[vP g3 0, vP g6 0]), (6, vP g6 0), (4, vP g4 0), (3, vP g3 0), (0, vB (2 : Nat))]
     have HF := HF.as (t := 5) (u := .bool ((parseEnd l).isSome)) rfl (congrArg Value.bool (by rw [parseEnd_is, show tkOk 281474976710657 l = true by simpa using hb24, decide_eq_true (by omega), Bool.true_and, Bool.true_and]))
     exact ⟨HF.sub (by kernel_rfl), HM.picks [0, 1, 2, 3] (by decide) rfl⟩
    ·have HF := HF.on 29 hb29
     have hd29 := ne_of_beq_false hb29
     refine ap HF (fun _ => HS) [8, 9, 10] #[true, true, true, true, true, true, true, true, true, true, true, false, false] [(32, .bool false), (31, undef), (30, undef)] ?_; clear HF; intro a HF
     refine any_all [11] (by kernel_rfl) rfl ?_
     refine all_cons ?_ all_nil
     refine any_op HF (i := 11) rfl rfl ?_
     refine e_storeAll HF HM (i := 3) (cs := #[vB 0, vB 0, vI 0, vI 0, .slice none 0 0]) (ds := #[vB (2 : Nat), vB 0, vI 0, vI (tkVal 281474976710657 l), .slice none 0 0]) rfl rfl rfl rfl si_bk rfl rfl (by simp [Value.oneCell']) rfl ?_
     clear HM; intro w6_11 HM
     refine keepS (HM.picks [0, 1, 2] (by decide) rfl) (fun HS => ?_)
     refine ap HF (fun _ => HS) [12] #[true, true, true, true, true, true, true, true, true, true, true, true, true] [(5, .bool false)] ?_; clear HF; intro a HF
     refine any_done (by kernel_rfl) ?_
     replace HF := HF.to [(5, .bool false), (18, .bool true), (8, vP g8 0), (7, .func (.func 44) #[] #[vP g3 0, vP g6 0]), (6, vP g6 0), (4, vP g4 0), (3, vP g3 0), (0, vB (2 : Nat))]
     have HF := HF.as (t := 5) (u := .bool ((parseEnd l).isSome)) rfl (congrArg Value.bool (by rw [parseEnd_is, decide_eq_false (by omega), Bool.false_and, Bool.and_false]))
     exact ⟨HF.sub (by kernel_rfl), HM.picks [0, 1, 2, 3] (by decide) rfl⟩
   ·have HF := HF.on 24 hb24
    refine ap HF (fun _ => HS) [3, 4, 5, 6, 7, 8, 9, 10] #[true, true, true, true, true, true, true, true, true, true, true, false, false] [(32, .bool false), (31, undef), (30, undef), (29, .bool false), (28, .bool false), (27, undef), (26, undef), (25, undef)] ?_; clear HF; intro a HF
    refine any_all [11] (by kernel_rfl) rfl ?_
    refine all_cons ?_ all_nil
    refine any_op HF (i := 11) rfl rfl ?_
    refine e_storeAll HF HM (i := 3) (cs := #[vB 0, vB 0, vI 0, vI 0, .slice none 0 0]) (ds := #[vB (2 : Nat), vB 0, vI 0, vI (tkVal 281474976710657 l), .slice none 0 0]) rfl rfl rfl rfl si_bk rfl rfl (by simp [Value.oneCell']) rfl ?_
    clear HM; intro w6_11 HM
    refine keepS (HM.picks [0, 1, 2] (by decide) rfl) (fun HS => ?_)
    refine ap HF (fun _ => HS) [12] #[true, true, true, true, true, true, true, true, true, true, true, true, true] [(5, .bool false)] ?_; clear HF; intro a HF
    refine any_done (by kernel_rfl) ?_
    replace HF := HF.to [(5, .bool false), (18, .bool true), (8, vP g8 0), (7, .func (.func 44) #[] #[vP g3 0, vP g6 0]), (6, vP g6 0), (4, vP g4 0), (3, vP g3 0), (0, vB (2 : Nat))]
    have HF := HF.as (t := 5) (u := .bool ((parseEnd l).isSome)) rfl (congrArg Value.bool (by rw [parseEnd_is, show tkOk 281474976710657 l = false by simpa using hb24]; rfl))
    exact ⟨HF.sub (by kernel_rfl), HM.picks [0, 1, 2, 3] (by decide) rfl⟩
  clear HF HM; rintro a w6 ⟨HF, HM⟩
  refine wp_ret ?_
  rcases Bool.eq_false_or_eq_true ((parseEnd l).isSome) with hb5 | hb5
  ·have HF := HF.on 5 hb5
   have hfin := hb5
   exact ret2 rfl HF (.cellS (i := 3) HF HM rfl rfl si_bk rfl) (.tmp HF rfl) (parseIs_some (b := ⟨2, 0, 0, (tkVal 281474976710657 l : Int), []⟩) (A := none) (c := 0) (by rw [parseR_end]; exact parseEnd_val hfin) (World.ownsRow_nil _ _ _ _) (Nat.le_refl _) HM.below)
  ·have HF := HF.on 5 hb5
   have hfin := hb5
   exact ret2 rfl HF (.cellS (i := 3) HF HM rfl rfl si_bk rfl) (.tmp HF rfl) (parseIs_none (by rw [parseR_end]; exact Option.not_isSome_iff_eq_none.1 (by rw [hfin]; decide)) rfl (by simp [Value.oneCell']) HM.below)
 ·have HF := HF.on 18 hb18
  have hd18 := ne_of_beq_false hb18
  obtain rfl : k = 1 := by omega
  refine cond_false HF rfl (wp_skip (wp_seq (from_start ?_)))
  refine fp HF 1 0 [(33, .func (.func 44) #[] #[vP g3 0, vP g6 0])] ?_; clear HF; intro a HF
  refine from_op HF (i := 1) rfl rfl ?_
  replace HM := HM.picks (fs' := [.blk g3 #[.slice A n c] 22, .blk g6 #[.bool true] 4, .blk g8 #[vB (1 : Nat), vB 0, vI 0, vI 0, .slice none 0 0] 27, .blk g4 #[vB 0, vB 0, vI 0, vI 0, .slice none 0 0] 27]) [3, 1, 0, 2] (by decide) rfl
  have hl1 := tk_rest_lt hl
  refine e_callv HF (f := 44) (vs := [vI 63]) (fst := []) (caps := [vP g3 0, vP g6 0]) rfl rfl rfl (by kernel_rfl) rfl (by decide) (ptake_any w _ g3 g6 A n c l true 63 [.blk g8 #[vB (1 : Nat), vB 0, vI 0, vI 0, .slice none 0 0] 27, .blk g4 #[vB 0, vB 0, vI 0, vI 0, .slice none 0 0] 27] hl hln (by omega) hr hc (by omega) HM) ?_
  rintro _ w34 ⟨rfl, Aq1, cq1, hr1, hc1, hm⟩
  refine ⟨_, rfl, ?_⟩
  replace HM := hm
  clear HF; intro a HF
  have ht0 := tkVal_le 63 l
  have hs0 := tkRest_le l
  refine fp HF 1 2 [(35, vB (IntKind.u8.wrap (tkVal 63 l : Int)))] ?_; clear HF; intro a HF
  replace HF := HF.as (t := 35) (u := vB (tkVal 63 l)) rfl (u8_nat rfl (by omega))
  refine fp HF 1 3 [(36, .func (.func 44) #[] #[vP g3 0, vP g6 0])] ?_; clear HF; intro a HF
  refine from_op HF (i := 4) rfl rfl ?_
  replace HM := HM.picks (fs' := [.blk g3 #[.slice Aq1 ((tkRest l).length) cq1] 22, .blk g6 #[.bool (true && tkOk 63 l)] 4, .blk g8 #[vB (1 : Nat), vB 0, vI 0, vI 0, .slice none 0 0] 27, .blk g4 #[vB 0, vB 0, vI 0, vI 0, .slice none 0 0] 27]) [0, 1, 2, 3] (by decide) rfl
  have hl2 := tk_rest_lt hl1
  refine e_callv HF (f := 44) (vs := [vI 281474976710656]) (fst := []) (caps := [vP g3 0, vP g6 0]) rfl rfl rfl (by kernel_rfl) rfl (by decide) (ptake_any w _ g3 g6 Aq1 ((tkRest l).length) cq1 (tkRest l) (true && tkOk 63 l) 281474976710656 [.blk g8 #[vB (1 : Nat), vB 0, vI 0, vI 0, .slice none 0 0] 27, .blk g4 #[vB 0, vB 0, vI 0, vI 0, .slice none 0 0] 27] hl1 rfl (by omega) hr1 hc1 (by omega) HM) ?_
  rintro _ w37 ⟨rfl, Aq2, cq2, hr2, hc2, hm⟩
  refine ⟨_, rfl, ?_⟩
  replace HM := hm
  clear HF; intro a HF
  have ht1 := tkVal_le 281474976710656 (tkRest l)
  have hs1 := tkRest_le (tkRest l)
  refine fp HF 1 5 [(38, vP g8 1)] ?_; clear HF; intro a HF
  refine from_op HF (i := 6) rfl rfl ?_
  refine e_store HF HM (i := 2) (cs := #[vB (1 : Nat), vB 0, vI 0, vI 0, .slice none 0 0]) rfl rfl rfl rfl (by kernel_rfl) rfl rfl (by simp) ?_
  clear HM; intro w7_6 HM
  refine fp HF 1 7 [(39, vP g8 2)] ?_; clear HF; intro a HF
  refine from_op HF (i := 8) rfl rfl ?_
  refine e_store HF HM (i := 2) (cs := #[vB (1 : Nat), vB (tkVal 63 l), vI 0, vI 0, .slice none 0 0]) rfl rfl rfl rfl (by kernel_rfl) rfl rfl (by simp) ?_
  clear HM; intro w7_8 HM
  refine from_done rfl ?_
  refine wp_seq (from_start ?_)
  refine fp HF 1 0 [(40, .func (.func 44) #[] #[vP g3 0, vP g6 0])] ?_; clear HF; intro a HF
  refine from_op HF (i := 1) rfl rfl ?_
  replace HM := HM.picks (fs' := [.blk g3 #[.slice Aq2 ((tkRest (tkRest l)).length) cq2] 22, .blk g6 #[.bool ((true && tkOk 63 l) && tkOk 281474976710656 (tkRest l))] 4, .blk g8 #[vB (1 : Nat), vB (tkVal 63 l), vI (tkVal 281474976710656 (tkRest l)), vI 0, .slice none 0 0] 27, .blk g4 #[vB 0, vB 0, vI 0, vI 0, .slice none 0 0] 27]) [0, 1, 2, 3] (by decide) rfl
  have hl3 := tk_rest_lt hl2
  refine e_callv HF (f := 44) (vs := [vI 4096]) (fst := []) (caps := [vP g3 0, vP g6 0]) rfl rfl rfl (by kernel_rfl) rfl (by decide) (ptake_any w _ g3 g6 Aq2 ((tkRest (tkRest l)).length) cq2 (tkRest (tkRest l)) ((true && tkOk 63 l) && tkOk 281474976710656 (tkRest l)) 4096 [.blk g8 #[vB (1 : Nat), vB (tkVal 63 l), vI (tkVal 281474976710656 (tkRest l)), vI 0, .slice none 0 0] 27, .blk g4 #[vB 0, vB 0, vI 0, vI 0, .slice none 0 0] 27] hl2 rfl (by omega) hr2 hc2 (by omega) HM) ?_
  rintro _ w41 ⟨rfl, Aq3, cq3, hr3, hc3, hm⟩
  refine ⟨_, rfl, ?_⟩
  replace HM := hm
  clear HF; intro a HF
  have ht2 := tkVal_le 4096 (tkRest (tkRest l))
  have hs2 := tkRest_le (tkRest (tkRest l))
  refine fp HF 1 2 [(9, vI (tkVal 4096 (tkRest (tkRest l))))] ?_; clear HF; intro a HF
  refine from_done rfl ?_
  refine wp_seq (wp_seq (from_start ?_))
  refine fy HF HM 0 rfl rfl rfl (Yl.load1 rfl rfl (by kernel_rfl) (fun _ h => h.cell (i := 1) rfl rfl)) ?_; clear HF; intro a HF
  refine fp HF 1 1 [(43, .bool (((true && tkOk 63 l) && tkOk 281474976710656 (tkRest l)) && tkOk 4096 (tkRest (tkRest l))))] ?_; clear HF; intro a HF
  rcases Bool.eq_false_or_eq_true ((((true && tkOk 63 l) && tkOk 281474976710656 (tkRest l)) && tkOk 4096 (tkRest (tkRest l)))) with hb43 | hb43
  ·have HF := HF.on 43 hb43
   have h3 : parse3 l = true := by rw [← tk3]; exact hb43
   refine fp HF 3 2 [(46, .bool (decide ((tkVal 4096 (tkRest (tkRest l)) : Int) > (0 : Int)))), (45, .bool (decide ((tkVal 4096 (tkRest (tkRest l)) : Int) > (0 : Int)))), (44, vI (tkVal 4096 (tkRest (tkRest l))))] ?_; clear HF; intro a HF
   refine from_done rfl ?_
   replace HF := HF.to [(46, .bool (decide ((tkVal 4096 (tkRest (tkRest l)) : Int) > (0 : Int)))), (9, vI (tkVal 4096 (tkRest (tkRest l)))), (18, .bool false), (8, vP g8 0), (7, .func (.func 44) #[] #[vP g3 0, vP g6 0]), (6, vP g6 0), (5, .bool false), (4, vP g4 0), (3, vP g3 0), (0, vB (1 : Nat))]
   rcases Bool.eq_false_or_eq_true (decide ((tkVal 4096 (tkRest (tkRest l)) : Int) > (0 : Int))) with hb46 | hb46
   ·have HF := HF.on 46 hb46
    have hd46 := of_decide_eq_true hb46
    refine cond_true HF rfl (wp_seq (from_start ?_))
    refine fp HF 1 0 [(47, .func (.func 44) #[] #[vP g3 0, vP g6 0])] ?_; clear HF; intro a HF
    refine from_op HF (i := 1) rfl rfl ?_
    replace HM := HM.picks (fs' := [.blk g3 #[.slice Aq3 ((tkRest (tkRest (tkRest l))).length) cq3] 22, .blk g6 #[.bool (((true && tkOk 63 l) && tkOk 281474976710656 (tkRest l)) && tkOk 4096 (tkRest (tkRest l)))] 4, .blk g8 #[vB (1 : Nat), vB (tkVal 63 l), vI (tkVal 281474976710656 (tkRest l)), vI 0, .slice none 0 0] 27, .blk g4 #[vB 0, vB 0, vI 0, vI 0, .slice none 0 0] 27]) [0, 1, 2, 3] (by decide) rfl
    have hl4 := tk_rest_lt hl3
    refine e_callv HF (f := 44) (vs := [vI 281474976710656]) (fst := []) (caps := [vP g3 0, vP g6 0]) rfl rfl rfl (by kernel_rfl) rfl (by decide) (ptake_any w _ g3 g6 Aq3 ((tkRest (tkRest (tkRest l))).length) cq3 (tkRest (tkRest (tkRest l))) (((true && tkOk 63 l) && tkOk 281474976710656 (tkRest l)) && tkOk 4096 (tkRest (tkRest l))) 281474976710656 [.blk g8 #[vB (1 : Nat), vB (tkVal 63 l), vI (tkVal 281474976710656 (tkRest l)), vI 0, .slice none 0 0] 27, .blk g4 #[vB 0, vB 0, vI 0, vI 0, .slice none 0 0] 27] hl3 rfl (by omega) hr3 hc3 (by omega) HM) ?_
    rintro _ w48 ⟨rfl, Aq4, cq4, hr4, hc4, hm⟩
    refine ⟨_, rfl, ?_⟩
    replace HM := hm
    clear HF; intro a HF
    have ht3 := tkVal_le 281474976710656 (tkRest (tkRest (tkRest l)))
    have hs3 := tkRest_le (tkRest (tkRest (tkRest l)))
    refine fp HF 1 2 [(49, .func (.func 44) #[] #[vP g3 0, vP g6 0])] ?_; clear HF; intro a HF
    refine from_op HF (i := 3) rfl rfl ?_
    replace HM := HM.picks (fs' := [.blk g3 #[.slice Aq4 ((tkRest (tkRest (tkRest (tkRest l)))).length) cq4] 22, .blk g6 #[.bool ((((true && tkOk 63 l) && tkOk 281474976710656 (tkRest l)) && tkOk 4096 (tkRest (tkRest l))) && tkOk 281474976710656 (tkRest (tkRest (tkRest l))))] 4, .blk g8 #[vB (1 : Nat), vB (tkVal 63 l), vI (tkVal 281474976710656 (tkRest l)), vI 0, .slice none 0 0] 27, .blk g4 #[vB 0, vB 0, vI 0, vI 0, .slice none 0 0] 27]) [0, 1, 2, 3] (by decide) rfl
    have hl5 := tk_rest_lt hl4
    refine e_callv HF (f := 44) (vs := [vI 281474976710656]) (fst := []) (caps := [vP g3 0, vP g6 0]) rfl rfl rfl (by kernel_rfl) rfl (by decide) (ptake_any w _ g3 g6 Aq4 ((tkRest (tkRest (tkRest (tkRest l)))).length) cq4 (tkRest (tkRest (tkRest (tkRest l)))) ((((true && tkOk 63 l) && tkOk 281474976710656 (tkRest l)) && tkOk 4096 (tkRest (tkRest l))) && tkOk 281474976710656 (tkRest (tkRest (tkRest l)))) 281474976710656 [.blk g8 #[vB (1 : Nat), vB (tkVal 63 l), vI (tkVal 281474976710656 (tkRest l)), vI 0, .slice none 0 0] 27, .blk g4 #[vB 0, vB 0, vI 0, vI 0, .slice none 0 0] 27] hl4 rfl (by omega) hr4 hc4 (by omega) HM) ?_
    rintro _ w50 ⟨rfl, Aq5, cq5, hr5, hc5, hm⟩
    refine ⟨_, rfl, ?_⟩
    replace HM := hm
    clear HF; intro a HF
    have ht4 := tkVal_le 281474976710656 (tkRest (tkRest (tkRest (tkRest l))))
    have hs4 := tkRest_le (tkRest (tkRest (tkRest (tkRest l))))
    refine fy HF HM 4 rfl rfl rfl (v := .agg #[vI (tkVal 281474976710656 (tkRest (tkRest (tkRest l)))), vI (tkVal 281474976710656 (tkRest (tkRest (tkRest (tkRest l)))))]) (Yl.build (vs := [(0, vI (tkVal 281474976710656 (tkRest (tkRest (tkRest l))))), (1, vI (tkVal 281474976710656 (tkRest (tkRest (tkRest (tkRest l))))))]) rfl (by kernel_rfl) (by kernel_rfl)) ?_; clear HF; intro a HF
    refine from_op HF (i := 5) rfl rfl ?_
    refine e_alloc HF HM (cs := #[vI 0, vI 0]) rfl (by kernel_rfl) rfl (by decide) ?_
    clear HF HM; intro a w10 g10 HF HM
    refine from_op HF (i := 6) rfl rfl ?_
    refine e_storeAll HF HM (i := 0) (cs := #[vI 0, vI 0]) (ds := #[vI (tkVal 281474976710656 (tkRest (tkRest (tkRest l)))), vI (tkVal 281474976710656 (tkRest (tkRest (tkRest (tkRest l)))))]) rfl rfl rfl rfl ⟨(by kernel_rfl), (by kernel_rfl)⟩ rfl rfl (by simp [Value.oneCell']) rfl ?_
    clear HM; intro w10_6 HM
    refine from_done rfl ?_
    obtain ⟨es, L, er, hq⟩ : ∃ es L er, readR ⟨(tkVal 281474976710656 (tkRest (tkRest (tkRest l))) : Int), (tkVal 281474976710656 (tkRest (tkRest (tkRest (tkRest l)))) : Int)⟩ (tkVal 63 l) (tkVal 4096 (tkRest (tkRest l)) : Int) (tkRest (tkRest (tkRest (tkRest (tkRest l))))) = (es, L, er) := ⟨_, _, _, rfl⟩
    refine wp_seq (from_start ?_)
    refine fy HF HM 0 rfl rfl rfl (v := .agg #[vI (tkVal 281474976710656 (tkRest (tkRest (tkRest l)))), vI (tkVal 281474976710656 (tkRest (tkRest (tkRest (tkRest l)))))]) (Yl.loadS rfl rfl ⟨(by kernel_rfl), (by kernel_rfl)⟩ rfl (fun _ h => range_of_block (h.blk (i := 0) rfl))) ?_; clear HF; intro a HF
    refine fp HF 1 1 [(54, vP g8 1)] ?_; clear HF; intro a HF
    refine fy HF HM 2 rfl rfl rfl (Yl.load1 rfl rfl (by kernel_rfl) (fun _ h => h.cell (i := 3) rfl rfl)) ?_; clear HF; intro a HF
    refine fp HF 1 3 [(56, vI (tkVal 4096 (tkRest (tkRest l))))] ?_; clear HF; intro a HF
    refine fy HF HM 4 rfl rfl rfl (Yl.load1 rfl rfl (by kernel_rfl) (fun _ h => h.cell (i := 1) rfl rfl)) ?_; clear HF; intro a HF
    refine from_op HF (i := 5) rfl rfl ?_
    refine e_call HF (vs := [.agg #[vI (tkVal 281474976710656 (tkRest (tkRest (tkRest l)))), vI (tkVal 281474976710656 (tkRest (tkRest (tkRest (tkRest l)))))], vB (tkVal 63 l), vI (tkVal 4096 (tkRest (tkRest l))), .slice Aq5 ((tkRest (tkRest (tkRest (tkRest (tkRest l))))).length) cq5]) rfl (by kernel_rfl) (by kernel_rfl) rfl (by decide) (read_is ⟨(tkVal 281474976710656 (tkRest (tkRest (tkRest l))) : Int), (tkVal 281474976710656 (tkRest (tkRest (tkRest (tkRest l)))) : Int)⟩ (tkVal 63 l) (by omega) Aq5 ((tkRest (tkRest (tkRest (tkRest (tkRest l))))).length) cq5 (tkVal 4096 (tkRest (tkRest l)) : Int) (by unfold I64; omega) (tkRest (tkRest (tkRest (tkRest (tkRest l))))) B _ (hL.mem HM hB).laid (HM.le hB) (HM.old hr5) hc5 hl5 (by omega) (.inl (by omega)) hq) ?_
    rintro _ w58 ⟨⟨A58, c58, rfl, ho, hc58⟩, hbw⟩
    refine ⟨_, rfl, ?_⟩
    replace HM := HM.callRow hbw ho
    clear HF; intro a HF
    refine fp HF 7 6 [(13, vI er), (12, vI L), (11, .slice A58 es.length c58), (61, vI er), (60, vI L), (59, .slice A58 es.length c58), (52, .tuple #[.slice A58 es.length c58, vI L, vI er])] ?_; clear HF; intro a HF
    refine from_done rfl ?_
    refine wp_seq ?_
    refine cut_seq (fun aS wS => Fr aS 99 [] [(81, .bool (!(decide (er = 0 ∧ (es.getD 0 Ev.zero).seq = (tkVal 281474976710656 (tkRest (tkRest (tkRest l))) : Int) ∧ (es.getD 0 Ev.zero).time = (tkVal 281474976710656 (tkRest (tkRest (tkRest (tkRest l)))) : Int))))), (12, vI L), (11, .slice A58 es.length c58), (10, vP g10 0), (46, .bool true), (9, vI (tkVal 4096 (tkRest (tkRest l)))), (18, .bool false), (8, vP g8 0), (7, .func (.func 44) #[] #[vP g3 0, vP g6 0]), (6, vP g6 0), (5, .bool false), (4, vP g4 0), (3, vP g3 0), (0, vB (1 : Nat))] ∧ Mem w wS [.row (.slice A58 es.length c58) es.length (es.flatMap evL) 46 11, .blk g10 #[vI (tkVal 281474976710656 (tkRest (tkRest (tkRest l)))), vI (tkVal 281474976710656 (tkRest (tkRest (tkRest (tkRest l)))))] 69, .blk g3 #[.slice Aq5 ((tkRest (tkRest (tkRest (tkRest (tkRest l))))).length) cq5] 22, .blk g6 #[.bool (((((true && tkOk 63 l) && tkOk 281474976710656 (tkRest l)) && tkOk 4096 (tkRest (tkRest l))) && tkOk 281474976710656 (tkRest (tkRest (tkRest l)))) && tkOk 281474976710656 (tkRest (tkRest (tkRest (tkRest l)))))] 4, .blk g8 #[vB (1 : Nat), vB (tkVal 63 l), vI (tkVal 281474976710656 (tkRest l)), vI 0, .slice none 0 0] 27, .blk g4 #[vB 0, vB 0, vI 0, vI 0, .slice none 0 0] 27]) ?_ ?_
    ·
     refine any_start (by kernel_rfl) (fun wS => Mem w wS [.row (.slice A58 es.length c58) es.length (es.flatMap evL) 46 11, .blk g10 #[vI (tkVal 281474976710656 (tkRest (tkRest (tkRest l)))), vI (tkVal 281474976710656 (tkRest (tkRest (tkRest (tkRest l)))))] 69, .blk g3 #[.slice Aq5 ((tkRest (tkRest (tkRest (tkRest (tkRest l))))).length) cq5] 22, .blk g6 #[.bool (((((true && tkOk 63 l) && tkOk 281474976710656 (tkRest l)) && tkOk 4096 (tkRest (tkRest l))) && tkOk 281474976710656 (tkRest (tkRest (tkRest l)))) && tkOk 281474976710656 (tkRest (tkRest (tkRest (tkRest l)))))] 4, .blk g8 #[vB (1 : Nat), vB (tkVal 63 l), vI (tkVal 281474976710656 (tkRest l)), vI 0, .slice none 0 0] 27, .blk g4 #[vB 0, vB 0, vI 0, vI 0, .slice none 0 0] 27]) [] ?_
     replace HM := HM.drew
     have HS := HM.picks (fs' := [.row (.slice A58 es.length c58) es.length (es.flatMap evL) 46 11, .blk g10 #[vI (tkVal 281474976710656 (tkRest (tkRest (tkRest l)))), vI (tkVal 281474976710656 (tkRest (tkRest (tkRest (tkRest l)))))] 69, .blk g3 #[.slice Aq5 ((tkRest (tkRest (tkRest (tkRest (tkRest l))))).length) cq5] 22, .blk g6 #[.bool (((((true && tkOk 63 l) && tkOk 281474976710656 (tkRest l)) && tkOk 4096 (tkRest (tkRest l))) && tkOk 281474976710656 (tkRest (tkRest (tkRest l)))) && tkOk 281474976710656 (tkRest (tkRest (tkRest (tkRest l)))))] 4, .blk g8 #[vB (1 : Nat), vB (tkVal 63 l), vI (tkVal 281474976710656 (tkRest l)), vI 0, .slice none 0 0] 27, .blk g4 #[vB 0, vB 0, vI 0, vI 0, .slice none 0 0] 27]) [0, 1, 2, 3, 4, 5] (by decide) rfl
     refine ap HF (fun _ => HS) [0, 1, 2] #[true, true, true, false, false, false, false, false, false, false, false, false, false, false, false, false, false, false, false, false] [(64, .bool ((er : Int) != (0 : Int))), (63, .bool ((er : Int) != (0 : Int))), (62, vI er)] ?_; clear HF; intro a HF
     rcases Bool.eq_false_or_eq_true ((er : Int) != (0 : Int)) with hb64 | hb64
     ·have HF := HF.on 64 hb64
      have hd64 := bne_iff_ne.1 hb64
      refine ap HF (fun _ => HS) [3, 4, 5, 6, 7, 8, 9, 10, 11, 12, 13, 14, 15, 16, 17, 18, 19] #[true, true, true, true, true, true, true, true, true, true, true, true, true, true, true, true, true, true, true, true] [(81, .bool true), (80, undef), (79, undef), (78, undef), (77, undef), (76, undef), (75, undef), (74, undef), (73, .bool true), (72, .bool true), (71, undef), (70, undef), (69, undef), (68, undef), (67, undef), (66, undef), (65, undef)] ?_; clear HF; intro a HF
      refine any_done (by kernel_rfl) ?_
      replace HF := HF.to [(81, .bool true), (12, vI L), (11, .slice A58 es.length c58), (10, vP g10 0), (46, .bool true), (9, vI (tkVal 4096 (tkRest (tkRest l)))), (18, .bool false), (8, vP g8 0), (7, .func (.func 44) #[] #[vP g3 0, vP g6 0]), (6, vP g6 0), (5, .bool false), (4, vP g4 0), (3, vP g3 0), (0, vB (1 : Nat))]
      have HF := HF.as (t := 81) (u := .bool (!(decide (er = 0 ∧ (es.getD 0 Ev.zero).seq = (tkVal 281474976710656 (tkRest (tkRest (tkRest l))) : Int) ∧ (es.getD 0 Ev.zero).time = (tkVal 281474976710656 (tkRest (tkRest (tkRest (tkRest l)))) : Int))))) rfl (congrArg Value.bool (by rw [decide_eq_false (by omega)]; rfl))
      exact ⟨HF.sub (by kernel_rfl), HM.picks [0, 1, 2, 3, 4, 5] (by decide) rfl⟩
     ·have HF := HF.on 64 hb64
      have hd64 := bne_eq_false_iff_eq.1 hb64
      have her : er = 0 := by omega
      have hq0 := hq; rw [her] at hq0; obtain ⟨rw1, rw2, rw3, rw4, rw5⟩ := read_write (cpu := tkVal 63 l) (by omega) hl5 hq0
      refine ap HF (fun _ => HS) [3, 7] #[true, true, true, true, false, false, false, true, false, false, false, false, false, false, false, false, false, false, false, false] [(69, vP g10 0), (65, .slice A58 es.length c58)] ?_; clear HF; intro a HF
      obtain ⟨gA58, rfl⟩ := own_some (HM.own (i := 0) rfl) (Nat.lt_of_le_of_lt (Nat.zero_le _) (show 0 < es.length from by omega))
      refine ay HF HS 4 rfl rfl rfl (v := vP gA58 0) (Yl.indexAddr (ad := ⟨gA58, 0, none⟩) (y := 0) (sz := 11) rfl rfl rfl (by omega) (by kernel_rfl)) ?_; clear HF; intro a HF
      refine ap HF (fun _ => HS) [5] #[true, true, true, true, true, true, false, true, false, false, false, false, false, false, false, false, false, false, false, false] [(67, vP gA58 0)] ?_; clear HF; intro a HF
      refine ay HF HS 6 rfl rfl rfl (v := vI ((es.getD 0 Ev.zero).seq)) (Yl.load1 rfl rfl (by kernel_rfl) (fun _ h => (by have := h.rowCell evL_len (i := 0) rfl (k := 0) (off := 0) (x := (es.getD 0 Ev.zero)) ((getD_at Ev.zero (k := 0) (by first | omega | (simp; omega)))) rfl; simpa using this))) ?_; clear HF; intro a HF
      refine ay HF HS 8 rfl rfl rfl (Yl.load1 rfl rfl (by kernel_rfl) (fun _ h => h.cell (i := 1) rfl rfl)) ?_; clear HF; intro a HF
      refine ap HF (fun _ => HS) [9, 10, 11] #[true, true, true, true, true, true, true, true, true, true, true, true, false, false, false, false, false, false, false, false] [(73, .bool (((es.getD 0 Ev.zero).seq : Int) != (tkVal 281474976710656 (tkRest (tkRest (tkRest l))) : Int))), (72, .bool (((es.getD 0 Ev.zero).seq : Int) != (tkVal 281474976710656 (tkRest (tkRest (tkRest l))) : Int))), (71, .bool (((es.getD 0 Ev.zero).seq : Int) != (tkVal 281474976710656 (tkRest (tkRest (tkRest l))) : Int)))] ?_; clear HF; intro a HF
      rcases Bool.eq_false_or_eq_true (((es.getD 0 Ev.zero).seq : Int) != (tkVal 281474976710656 (tkRest (tkRest (tkRest l))) : Int)) with hb73 | hb73
      ·have HF := HF.on 73 hb73
       have hd73 := bne_iff_ne.1 hb73
       refine ap HF (fun _ => HS) [12, 13, 14, 15, 16, 17, 18, 19] #[true, true, true, true, true, true, true, true, true, true, true, true, true, true, true, true, true, true, true, true] [(81, .bool true), (80, undef), (79, undef), (78, undef), (77, undef), (76, undef), (75, undef), (74, undef)] ?_; clear HF; intro a HF
       refine any_done (by kernel_rfl) ?_
       replace HF := HF.to [(81, .bool true), (12, vI L), (11, vS gA58 es.length c58), (10, vP g10 0), (46, .bool true), (9, vI (tkVal 4096 (tkRest (tkRest l)))), (18, .bool false), (8, vP g8 0), (7, .func (.func 44) #[] #[vP g3 0, vP g6 0]), (6, vP g6 0), (5, .bool false), (4, vP g4 0), (3, vP g3 0), (0, vB (1 : Nat))]
       have HF := HF.as (t := 81) (u := .bool (!(decide (er = 0 ∧ (es.getD 0 Ev.zero).seq = (tkVal 281474976710656 (tkRest (tkRest (tkRest l))) : Int) ∧ (es.getD 0 Ev.zero).time = (tkVal 281474976710656 (tkRest (tkRest (tkRest (tkRest l)))) : Int))))) rfl (congrArg Value.bool (by rw [decide_eq_false (by omega)]; rfl))
       exact ⟨HF.sub (by kernel_rfl), HM.picks [0, 1, 2, 3, 4, 5] (by decide) rfl⟩
      ·have HF := HF.on 73 hb73
       have hd73 := bne_eq_false_iff_eq.1 hb73
       refine ap HF (fun _ => HS) [12, 16] #[true, true, true, true, true, true, true, true, true, true, true, true, true, false, false, false, true, false, false, false] [(78, vP g10 1), (74, vS gA58 es.length c58)] ?_; clear HF; intro a HF
       refine ay HF HS 13 rfl rfl rfl (v := vP gA58 0) (Yl.indexAddr (ad := ⟨gA58, 0, none⟩) (y := 0) (sz := 11) rfl rfl rfl (by omega) (by kernel_rfl)) ?_; clear HF; intro a HF
       refine ap HF (fun _ => HS) [14] #[true, true, true, true, true, true, true, true, true, true, true, true, true, true, true, false, true, false, false, false] [(76, vP gA58 1)] ?_; clear HF; intro a HF
       refine ay HF HS 15 rfl rfl rfl (v := vI ((es.getD 0 Ev.zero).time)) (Yl.load1 rfl rfl (by kernel_rfl) (fun _ h => h.rowCell evL_len (i := 0) rfl (k := 0) (off := 1) (x := (es.getD 0 Ev.zero)) ((getD_at Ev.zero (k := 0) (by first | omega | (simp; omega)))) rfl)) ?_; clear HF; intro a HF
       refine ay HF HS 17 rfl rfl rfl (Yl.load1 rfl rfl (by kernel_rfl) (fun _ h => h.cell (i := 1) rfl rfl)) ?_; clear HF; intro a HF
       refine ap HF (fun _ => HS) [18, 19] #[true, true, true, true, true, true, true, true, true, true, true, true, true, true, true, true, true, true, true, true] [(81, .bool (((es.getD 0 Ev.zero).time : Int) != (tkVal 281474976710656 (tkRest (tkRest (tkRest (tkRest l)))) : Int))), (80, .bool (((es.getD 0 Ev.zero).time : Int) != (tkVal 281474976710656 (tkRest (tkRest (tkRest (tkRest l)))) : Int)))] ?_; clear HF; intro a HF
       refine any_done (by kernel_rfl) ?_
       replace HF := HF.to [(81, .bool (((es.getD 0 Ev.zero).time : Int) != (tkVal 281474976710656 (tkRest (tkRest (tkRest (tkRest l)))) : Int))), (12, vI L), (11, vS gA58 es.length c58), (10, vP g10 0), (46, .bool true), (9, vI (tkVal 4096 (tkRest (tkRest l)))), (18, .bool false), (8, vP g8 0), (7, .func (.func 44) #[] #[vP g3 0, vP g6 0]), (6, vP g6 0), (5, .bool false), (4, vP g4 0), (3, vP g3 0), (0, vB (1 : Nat))]
       have HF := HF.as (t := 81) (u := .bool (!(decide (er = 0 ∧ (es.getD 0 Ev.zero).seq = (tkVal 281474976710656 (tkRest (tkRest (tkRest l))) : Int) ∧ (es.getD 0 Ev.zero).time = (tkVal 281474976710656 (tkRest (tkRest (tkRest (tkRest l)))) : Int))))) rfl (congrArg Value.bool (by rw [Bool.eq_iff_iff, bne_iff_ne, Bool.not_eq_true', decide_eq_false_iff_not]; omega))
       exact ⟨HF.sub (by kernel_rfl), HM.picks [0, 1, 2, 3, 4, 5] (by decide) rfl⟩
    clear HF HM; rintro a w12 ⟨HF, HM⟩
    rcases Bool.eq_false_or_eq_true (!(decide (er = 0 ∧ (es.getD 0 Ev.zero).seq = (tkVal 281474976710656 (tkRest (tkRest (tkRest l))) : Int) ∧ (es.getD 0 Ev.zero).time = (tkVal 281474976710656 (tkRest (tkRest (tkRest (tkRest l)))) : Int)))) with hb81 | hb81
    ·have HF := HF.on 81 hb81
     have hz : ¬ (er = 0 ∧ (es.getD 0 Ev.zero).seq = (tkVal 281474976710656 (tkRest (tkRest (tkRest l))) : Int) ∧ (es.getD 0 Ev.zero).time = (tkVal 281474976710656 (tkRest (tkRest (tkRest (tkRest l)))) : Int)) := fun hh => by rw [decide_eq_true hh] at hb81; cases hb81
     refine cond_true HF rfl (wp_seq (from_start ?_))
     refine fy HF HM 0 rfl rfl rfl (v := .agg #[vB 0, vB 0, vI 0, vI 0, .slice none 0 0]) (Yl.build (vs := []) rfl (by kernel_rfl) (by kernel_rfl)) ?_; clear HF; intro a HF
     refine from_op HF (i := 1) rfl rfl ?_
     refine e_storeAll HF HM (i := 5) (cs := #[vB 0, vB 0, vI 0, vI 0, .slice none 0 0]) (ds := #[vB 0, vB 0, vI 0, vI 0, .slice none 0 0]) rfl rfl rfl rfl si_bk rfl rfl (by simp [Value.oneCell']) rfl ?_
     clear HM; intro w13_1 HM
     refine fp HF 1 2 [(5, .bool false)] ?_; clear HF; intro a HF
     refine from_done rfl ?_
     refine wp_ret ?_
     exact ret2 rfl HF (.cellS (i := 5) HF HM rfl rfl si_bk rfl) (.tmp HF rfl) (parseIs_none (by rw [parseR_evs, parseEvs_full h3 (by omega) hq]; exact parseRows_none (fun hh => hz ⟨hh.1, hh.2.1, hh.2.2.1⟩)) rfl (by simp [Value.oneCell']) HM.below)
    ·have HF := HF.on 81 hb81
     have hz : er = 0 ∧ (es.getD 0 Ev.zero).seq = (tkVal 281474976710656 (tkRest (tkRest (tkRest l))) : Int) ∧ (es.getD 0 Ev.zero).time = (tkVal 281474976710656 (tkRest (tkRest (tkRest (tkRest l)))) : Int) := Decidable.byContradiction fun hh => by rw [decide_eq_false hh] at hb81; cases hb81
     have her := hz.1
     have hq0 := hq; rw [her] at hq0; obtain ⟨rw1, rw2, rw3, rw4, rw5⟩ := read_write (cpu := tkVal 63 l) (by omega) hl5 hq0
     refine cond_false HF rfl (wp_skip ?_)
     refine any_start (by kernel_rfl) (fun wS => Mem w wS [.row (.slice A58 es.length c58) es.length (es.flatMap evL) 46 11, .blk g10 #[vI (tkVal 281474976710656 (tkRest (tkRest (tkRest l)))), vI (tkVal 281474976710656 (tkRest (tkRest (tkRest (tkRest l)))))] 69, .blk g3 #[.slice Aq5 ((tkRest (tkRest (tkRest (tkRest (tkRest l))))).length) cq5] 22, .blk g6 #[.bool (((((true && tkOk 63 l) && tkOk 281474976710656 (tkRest l)) && tkOk 4096 (tkRest (tkRest l))) && tkOk 281474976710656 (tkRest (tkRest (tkRest l)))) && tkOk 281474976710656 (tkRest (tkRest (tkRest (tkRest l)))))] 4, .blk g4 #[vB 0, vB 0, vI 0, vI 0, .slice none 0 0] 27]) [6] ?_
     replace HM := HM.drew
     have HS := HM.picks (fs' := [.row (.slice A58 es.length c58) es.length (es.flatMap evL) 46 11, .blk g10 #[vI (tkVal 281474976710656 (tkRest (tkRest (tkRest l)))), vI (tkVal 281474976710656 (tkRest (tkRest (tkRest (tkRest l)))))] 69, .blk g3 #[.slice Aq5 ((tkRest (tkRest (tkRest (tkRest (tkRest l))))).length) cq5] 22, .blk g6 #[.bool (((((true && tkOk 63 l) && tkOk 281474976710656 (tkRest l)) && tkOk 4096 (tkRest (tkRest l))) && tkOk 281474976710656 (tkRest (tkRest (tkRest l)))) && tkOk 281474976710656 (tkRest (tkRest (tkRest (tkRest l)))))] 4, .blk g4 #[vB 0, vB 0, vI 0, vI 0, .slice none 0 0] 27]) [0, 1, 2, 3, 5] (by decide) rfl
     refine ap HF (fun _ => HS) [0, 2, 4] #[true, false, true, false, true, false, false] [(87, vP g8 4), (85, vI L), (83, .slice A58 es.length c58)] ?_; clear HF; intro a HF
     refine ay HF HS 1 rfl rfl rfl (Yl.load1 rfl rfl (by kernel_rfl) (fun _ h => h.cell (i := 2) rfl rfl)) ?_; clear HF; intro a HF
     refine ay HF HS 3 rfl rfl rfl (v := .slice (if cq5 = L then Aq5 else Aq5.map (·.add (L * 1))) (((tkRest (tkRest (tkRest (tkRest (tkRest l))))).length) - L) (cq5 - L)) (Yl.sliceFrom ei_u8 (j := L) rfl rfl rfl (by omega)) ?_; clear HF; intro a HF
     refine any_all [5] (by kernel_rfl) rfl ?_
     refine all_cons ?_ all_nil
     refine any_op HF (i := 5) rfl rfl ?_
     refine e_store HF HM (i := 4) (cs := #[vB (1 : Nat), vB (tkVal 63 l), vI (tkVal 281474976710656 (tkRest l)), vI 0, .slice none 0 0]) rfl rfl rfl rfl (by kernel_rfl) rfl rfl (by simp) ?_
     clear HM; intro w14_5 HM
     refine keepS (HM.picks [0, 1, 2, 3, 5] (by decide) rfl) (fun HS => ?_)
     refine any_all [6] (by kernel_rfl) rfl ?_
     refine all_cons ?_ all_nil
     refine any_op HF (i := 6) rfl rfl ?_
     refine e_store HF HM (i := 2) (cs := #[.slice Aq5 ((tkRest (tkRest (tkRest (tkRest (tkRest l))))).length) cq5]) rfl rfl rfl rfl (by kernel_rfl) rfl rfl (by simp) ?_
     clear HM; intro w14_6 HM
     refine noS (by kernel_rfl) ?_
     refine any_done (by kernel_rfl) ?_
     refine cut_seq (fun aS wS => Fr aS 99 [] [(5, .bool ((parseEvs l).isSome)), (81, .bool false), (11, .slice A58 es.length c58), (10, vP g10 0), (46, .bool true), (9, vI (tkVal 4096 (tkRest (tkRest l)))), (18, .bool false), (8, vP g8 0), (7, .func (.func 44) #[] #[vP g3 0, vP g6 0]), (6, vP g6 0), (4, vP g4 0), (3, vP g3 0), (0, vB (1 : Nat))] ∧ Mem w wS [.row (.slice A58 es.length c58) es.length (es.flatMap evL) 46 11, .blk g10 #[vI (tkVal 281474976710656 (tkRest (tkRest (tkRest l)))), vI (tkVal 281474976710656 (tkRest (tkRest (tkRest (tkRest l)))))] 69, .blk g3 #[.slice (if cq5 = L then Aq5 else Aq5.map (·.add (L * 1))) (((tkRest (tkRest (tkRest (tkRest (tkRest l))))).length) - L) (cq5 - L)] 22, .blk g6 #[.bool (((((true && tkOk 63 l) && tkOk 281474976710656 (tkRest l)) && tkOk 4096 (tkRest (tkRest l))) && tkOk 281474976710656 (tkRest (tkRest (tkRest l)))) && tkOk 281474976710656 (tkRest (tkRest (tkRest (tkRest l)))))] 4, .blk g8 #[vB (1 : Nat), vB (tkVal 63 l), vI (tkVal 281474976710656 (tkRest l)), vI 0, .slice A58 es.length c58] 27, .blk g4 #[vB (1 : Nat), vB (tkVal 63 l), vI (tkVal 281474976710656 (tkRest l)), vI 0, .slice A58 es.length c58] 27]) ?_ ?_
     ·
      refine any_start (by kernel_rfl) (fun wS => Mem w wS [.row (.slice A58 es.length c58) es.length (es.flatMap evL) 46 11, .blk g10 #[vI (tkVal 281474976710656 (tkRest (tkRest (tkRest l)))), vI (tkVal 281474976710656 (tkRest (tkRest (tkRest (tkRest l)))))] 69, .blk g3 #[.slice (if cq5 = L then Aq5 else Aq5.map (·.add (L * 1))) (((tkRest (tkRest (tkRest (tkRest (tkRest l))))).length) - L) (cq5 - L)] 22, .blk g6 #[.bool (((((true && tkOk 63 l) && tkOk 281474976710656 (tkRest l)) && tkOk 4096 (tkRest (tkRest l))) && tkOk 281474976710656 (tkRest (tkRest (tkRest l)))) && tkOk 281474976710656 (tkRest (tkRest (tkRest (tkRest l)))))] 4, .blk g8 #[vB (1 : Nat), vB (tkVal 63 l), vI (tkVal 281474976710656 (tkRest l)), vI 0, .slice A58 es.length c58] 27]) [] ?_
      replace HM := HM.drew
      have HS := HM.picks (fs' := [.row (.slice A58 es.length c58) es.length (es.flatMap evL) 46 11, .blk g10 #[vI (tkVal 281474976710656 (tkRest (tkRest (tkRest l)))), vI (tkVal 281474976710656 (tkRest (tkRest (tkRest (tkRest l)))))] 69, .blk g3 #[.slice (if cq5 = L then Aq5 else Aq5.map (·.add (L * 1))) (((tkRest (tkRest (tkRest (tkRest (tkRest l))))).length) - L) (cq5 - L)] 22, .blk g6 #[.bool (((((true && tkOk 63 l) && tkOk 281474976710656 (tkRest l)) && tkOk 4096 (tkRest (tkRest l))) && tkOk 281474976710656 (tkRest (tkRest (tkRest l)))) && tkOk 281474976710656 (tkRest (tkRest (tkRest (tkRest l)))))] 4, .blk g8 #[vB (1 : Nat), vB (tkVal 63 l), vI (tkVal 281474976710656 (tkRest l)), vI 0, .slice A58 es.length c58] 27]) [0, 1, 2, 3, 4] (by decide) rfl
      refine ay HF HS 0 rfl rfl rfl (v := .agg #[vB (1 : Nat), vB (tkVal 63 l), vI (tkVal 281474976710656 (tkRest l)), vI 0, .slice A58 es.length c58]) (Yl.loadS rfl rfl si_bk rfl (fun _ h => range_of_block (h.blk (i := 4) rfl))) ?_; clear HF; intro a HF
      refine ay HF HS 1 rfl rfl rfl (Yl.load1 rfl rfl (by kernel_rfl) (fun _ h => h.cell (i := 3) rfl rfl)) ?_; clear HF; intro a HF
      refine ap HF (fun _ => HS) [2] #[true, true, true, false, false, false, false, false, false, false, false, false, false] [(90, .bool (((((true && tkOk 63 l) && tkOk 281474976710656 (tkRest l)) && tkOk 4096 (tkRest (tkRest l))) && tkOk 281474976710656 (tkRest (tkRest (tkRest l)))) && tkOk 281474976710656 (tkRest (tkRest (tkRest (tkRest l))))))] ?_; clear HF; intro a HF
      rcases Bool.eq_false_or_eq_true ((((((true && tkOk 63 l) && tkOk 281474976710656 (tkRest l)) && tkOk 4096 (tkRest (tkRest l))) && tkOk 281474976710656 (tkRest (tkRest (tkRest l)))) && tkOk 281474976710656 (tkRest (tkRest (tkRest (tkRest l)))))) with hb90 | hb90
      ·have HF := HF.on 90 hb90
       refine ay HF HS 3 rfl rfl rfl (Yl.load1 rfl rfl (by kernel_rfl) (fun _ h => h.cell (i := 2) rfl rfl)) ?_; clear HF; intro a HF
       refine ay HF HS 4 rfl rfl rfl (Yl.len rfl rfl (by kernel_rfl)) ?_; clear HF; intro a HF
       refine ap HF (fun _ => HS) [5, 6, 7] #[true, true, true, true, true, true, true, true, false, false, false, false, false] [(95, .bool (((((tkRest (tkRest (tkRest (tkRest (tkRest l))))).length) - L : Nat) : Int) == (0 : Int))), (94, .bool (((((tkRest (tkRest (tkRest (tkRest (tkRest l))))).length) - L : Nat) : Int) == (0 : Int))), (93, .bool (((((tkRest (tkRest (tkRest (tkRest (tkRest l))))).length) - L : Nat) : Int) == (0 : Int)))] ?_; clear HF; intro a HF
       rcases Bool.eq_false_or_eq_true (((((tkRest (tkRest (tkRest (tkRest (tkRest l))))).length) - L : Nat) : Int) == (0 : Int)) with hb95 | hb95
       ·have HF := HF.on 95 hb95
        have hd95 := eq_of_beq hb95
        refine ay HF HS 8 rfl rfl rfl (v := .agg #[vB (1 : Nat), vB (tkVal 63 l), vI (tkVal 281474976710656 (tkRest l)), vI 0, .slice A58 es.length c58]) (Yl.loadS rfl rfl si_bk rfl (fun _ h => range_of_block (h.blk (i := 4) rfl))) ?_; clear HF; intro a HF
        refine any_all [9] (by kernel_rfl) rfl ?_
        refine all_cons ?_ all_nil
        refine any_op HF (i := 9) rfl rfl ?_
        refine e_call HF (vs := [.agg #[vB (1 : Nat), vB (tkVal 63 l), vI (tkVal 281474976710656 (tkRest l)), vI 0, .slice A58 es.length c58]]) rfl (by kernel_rfl) (by kernel_rfl) rfl (by decide) (fits_any ⟨1, tkVal 63 l, (tkVal 281474976710656 (tkRest l) : Int), 0, es⟩ (evsOk (by omega) (by omega) (fun e he => (rw5 e he).1)) A58 c58 B _ (hL.mem HM hB) (HM.le hB) (HM.rd (i := 0) rfl) (by show es.length ≤ _; omega)) ?_
        rintro _ w97 ⟨rfl, hbw⟩
        refine ⟨_, rfl, ?_⟩
        replace HM := HM.call hbw
        clear HF; intro a HF
        refine keepS (HM.picks [0, 1, 2, 3, 4] (by decide) rfl) (fun HS => ?_)
        refine ap HF (fun _ => HS) [10] #[true, true, true, true, true, true, true, true, true, true, true, false, false] [(98, .bool (Bk.fits ⟨1, tkVal 63 l, (tkVal 281474976710656 (tkRest l) : Int), 0, es⟩))] ?_; clear HF; intro a HF
        refine any_all [11] (by kernel_rfl) rfl ?_
        refine all_cons ?_ all_nil
        refine any_op HF (i := 11) rfl rfl ?_
        refine e_storeAll HF HM (i := 5) (cs := #[vB 0, vB 0, vI 0, vI 0, .slice none 0 0]) (ds := #[vB (1 : Nat), vB (tkVal 63 l), vI (tkVal 281474976710656 (tkRest l)), vI 0, .slice A58 es.length c58]) rfl rfl rfl rfl si_bk rfl rfl (by simp [Value.oneCell']) rfl ?_
        clear HM; intro w15_11 HM
        refine keepS (HM.picks [0, 1, 2, 3, 4] (by decide) rfl) (fun HS => ?_)
        refine ap HF (fun _ => HS) [12] #[true, true, true, true, true, true, true, true, true, true, true, true, true] [(5, .bool (Bk.fits ⟨1, tkVal 63 l, (tkVal 281474976710656 (tkRest l) : Int), 0, es⟩))] ?_; clear HF; intro a HF
        refine any_done (by kernel_rfl) ?_
        replace HF := HF.to [(5, .bool (Bk.fits ⟨1, tkVal 63 l, (tkVal 281474976710656 (tkRest l) : Int), 0, es⟩)), (81, .bool false), (11, .slice A58 es.length c58), (10, vP g10 0), (46, .bool true), (9, vI (tkVal 4096 (tkRest (tkRest l)))), (18, .bool false), (8, vP g8 0), (7, .func (.func 44) #[] #[vP g3 0, vP g6 0]), (6, vP g6 0), (4, vP g4 0), (3, vP g3 0), (0, vB (1 : Nat))]
        have HF := HF.as (t := 5) (u := .bool ((parseEvs l).isSome)) rfl (congrArg Value.bool (by rw [parseR1 h3 (by omega) hq her, rows_is ⟨hz.2.1, hz.2.2⟩, show (tkOk 281474976710656 (tkRest (tkRest (tkRest l))) && tkOk 281474976710656 (tkRest (tkRest (tkRest (tkRest l))))) = true by have h9 := hb90; rw [tk5 (l := l), tk3, h3, Bool.true_and] at h9; exact h9, decide_eq_true (by omega), Bool.true_and, Bool.true_and]))
        exact ⟨HF.sub (by kernel_rfl), HM.picks [0, 1, 2, 3, 4, 5] (by decide) rfl⟩
       ·have HF := HF.on 95 hb95
        have hd95 := ne_of_beq_false hb95
        refine ap HF (fun _ => HS) [8, 9, 10] #[true, true, true, true, true, true, true, true, true, true, true, false, false] [(98, .bool false), (97, undef), (96, undef)] ?_; clear HF; intro a HF
        refine any_all [11] (by kernel_rfl) rfl ?_
        refine all_cons ?_ all_nil
        refine any_op HF (i := 11) rfl rfl ?_
        refine e_storeAll HF HM (i := 5) (cs := #[vB 0, vB 0, vI 0, vI 0, .slice none 0 0]) (ds := #[vB (1 : Nat), vB (tkVal 63 l), vI (tkVal 281474976710656 (tkRest l)), vI 0, .slice A58 es.length c58]) rfl rfl rfl rfl si_bk rfl rfl (by simp [Value.oneCell']) rfl ?_
        clear HM; intro w15_11 HM
        refine keepS (HM.picks [0, 1, 2, 3, 4] (by decide) rfl) (fun HS => ?_)
        refine ap HF (fun _ => HS) [12] #[true, true, true, true, true, true, true, true, true, true, true, true, true] [(5, .bool false)] ?_; clear HF; intro a HF
        refine any_done (by kernel_rfl) ?_
        replace HF := HF.to [(5, .bool false), (81, .bool false), (11, .slice A58 es.length c58), (10, vP g10 0), (46, .bool true), (9, vI (tkVal 4096 (tkRest (tkRest l)))), (18, .bool false), (8, vP g8 0), (7, .func (.func 44) #[] #[vP g3 0, vP g6 0]), (6, vP g6 0), (4, vP g4 0), (3, vP g3 0), (0, vB (1 : Nat))]
        have HF := HF.as (t := 5) (u := .bool ((parseEvs l).isSome)) rfl (congrArg Value.bool (by rw [parseR1 h3 (by omega) hq her, rows_is ⟨hz.2.1, hz.2.2⟩, decide_eq_false (by omega), Bool.false_and, Bool.and_false]))
        exact ⟨HF.sub (by kernel_rfl), HM.picks [0, 1, 2, 3, 4, 5] (by decide) rfl⟩
      ·have HF := HF.on 90 hb90
       refine ap HF (fun _ => HS) [3, 4, 5, 6, 7, 8, 9, 10] #[true, true, true, true, true, true, true, true, true, true, true, false, false] [(98, .bool false), (97, undef), (96, undef), (95, .bool false), (94, .bool false), (93, undef), (92, undef), (91, undef)] ?_; clear HF; intro a HF
       refine any_all [11] (by kernel_rfl) rfl ?_
       refine all_cons ?_ all_nil
       refine any_op HF (i := 11) rfl rfl ?_
       refine e_storeAll HF HM (i := 5) (cs := #[vB 0, vB 0, vI 0, vI 0, .slice none 0 0]) (ds := #[vB (1 : Nat), vB (tkVal 63 l), vI (tkVal 281474976710656 (tkRest l)), vI 0, .slice A58 es.length c58]) rfl rfl rfl rfl si_bk rfl rfl (by simp [Value.oneCell']) rfl ?_
       clear HM; intro w15_11 HM
       refine keepS (HM.picks [0, 1, 2, 3, 4] (by decide) rfl) (fun HS => ?_)
       refine ap HF (fun _ => HS) [12] #[true, true, true, true, true, true, true, true, true, true, true, true, true] [(5, .bool false)] ?_; clear HF; intro a HF
       refine any_done (by kernel_rfl) ?_
       replace HF := HF.to [(5, .bool false), (81, .bool false), (11, .slice A58 es.length c58), (10, vP g10 0), (46, .bool true), (9, vI (tkVal 4096 (tkRest (tkRest l)))), (18, .bool false), (8, vP g8 0), (7, .func (.func 44) #[] #[vP g3 0, vP g6 0]), (6, vP g6 0), (4, vP g4 0), (3, vP g3 0), (0, vB (1 : Nat))]
       have HF := HF.as (t := 5) (u := .bool ((parseEvs l).isSome)) rfl (congrArg Value.bool (by rw [parseR1 h3 (by omega) hq her, rows_is ⟨hz.2.1, hz.2.2⟩, show (tkOk 281474976710656 (tkRest (tkRest (tkRest l))) && tkOk 281474976710656 (tkRest (tkRest (tkRest (tkRest l))))) = false by have h9 := hb90; rw [tk5 (l := l), tk3, h3, Bool.true_and] at h9; exact h9, Bool.false_and]))
       exact ⟨HF.sub (by kernel_rfl), HM.picks [0, 1, 2, 3, 4, 5] (by decide) rfl⟩
     clear HF HM; rintro a w15 ⟨HF, HM⟩
     refine wp_ret ?_
     rcases Bool.eq_false_or_eq_true ((parseEvs l).isSome) with hb5 | hb5
     ·have HF := HF.on 5 hb5
      have hfin := hb5
      exact ret2 rfl HF (.cellS (i := 5) HF HM rfl rfl si_bk rfl) (.tmp HF rfl) (parseIs_some (b := ⟨1, tkVal 63 l, (tkVal 281474976710656 (tkRest l) : Int), 0, es⟩) (A := A58) (c := c58) (by rw [parseR_evs]; rw [parseR1 h3 (by omega) hq her] at hfin ⊢; exact rows_val hfin) (HM.own (i := 0) rfl) hc58 HM.below)
     ·have HF := HF.on 5 hb5
      have hfin := hb5
      exact ret2 rfl HF (.cellS (i := 5) HF HM rfl rfl si_bk rfl) (.tmp HF rfl) (parseIs_none (by rw [parseR_evs]; exact Option.not_isSome_iff_eq_none.1 (by rw [hfin]; decide)) rfl (by simp [Value.oneCell']) HM.below)
   ·have HF := HF.on 46 hb46
    have hd46 := of_decide_eq_false hb46
    refine cond_false HF rfl (wp_skip ?_)
    refine cut_seq (fun aS wS => Fr aS 99 [] [(5, .bool ((parseEvs l).isSome)), (46, .bool false), (9, vI (tkVal 4096 (tkRest (tkRest l)))), (18, .bool false), (8, vP g8 0), (7, .func (.func 44) #[] #[vP g3 0, vP g6 0]), (6, vP g6 0), (4, vP g4 0), (3, vP g3 0), (0, vB (1 : Nat))] ∧ Mem w wS [.blk g3 #[.slice Aq3 ((tkRest (tkRest (tkRest l))).length) cq3] 22, .blk g6 #[.bool (((true && tkOk 63 l) && tkOk 281474976710656 (tkRest l)) && tkOk 4096 (tkRest (tkRest l)))] 4, .blk g8 #[vB (1 : Nat), vB (tkVal 63 l), vI (tkVal 281474976710656 (tkRest l)), vI 0, .slice none 0 0] 27, .blk g4 #[vB (1 : Nat), vB (tkVal 63 l), vI (tkVal 281474976710656 (tkRest l)), vI 0, .slice none 0 0] 27]) ?_ ?_
    ·
     refine any_start (by kernel_rfl) (fun wS => Mem w wS [.blk g3 #[.slice Aq3 ((tkRest (tkRest (tkRest l))).length) cq3] 22, .blk g6 #[.bool (((true && tkOk 63 l) && tkOk 281474976710656 (tkRest l)) && tkOk 4096 (tkRest (tkRest l)))] 4, .blk g8 #[vB (1 : Nat), vB (tkVal 63 l), vI (tkVal 281474976710656 (tkRest l)), vI 0, .slice none 0 0] 27]) [] ?_
     replace HM := HM.drew
     have HS := HM.picks (fs' := [.blk g3 #[.slice Aq3 ((tkRest (tkRest (tkRest l))).length) cq3] 22, .blk g6 #[.bool (((true && tkOk 63 l) && tkOk 281474976710656 (tkRest l)) && tkOk 4096 (tkRest (tkRest l)))] 4, .blk g8 #[vB (1 : Nat), vB (tkVal 63 l), vI (tkVal 281474976710656 (tkRest l)), vI 0, .slice none 0 0] 27]) [0, 1, 2] (by decide) rfl
     refine ay HF HS 0 rfl rfl rfl (v := .agg #[vB (1 : Nat), vB (tkVal 63 l), vI (tkVal 281474976710656 (tkRest l)), vI 0, .slice none 0 0]) (Yl.loadS rfl rfl si_bk rfl (fun _ h => range_of_block (h.blk (i := 2) rfl))) ?_; clear HF; intro a HF
     refine ay HF HS 1 rfl rfl rfl (Yl.load1 rfl rfl (by kernel_rfl) (fun _ h => h.cell (i := 1) rfl rfl)) ?_; clear HF; intro a HF
     refine ap HF (fun _ => HS) [2] #[true, true, true, false, false, false, false, false, false, false, false, false, false] [(90, .bool (((true && tkOk 63 l) && tkOk 281474976710656 (tkRest l)) && tkOk 4096 (tkRest (tkRest l))))] ?_; clear HF; intro a HF
     rcases Bool.eq_false_or_eq_true ((((true && tkOk 63 l) && tkOk 281474976710656 (tkRest l)) && tkOk 4096 (tkRest (tkRest l)))) with hb90 | hb90
     ·have HF := HF.on 90 hb90
      refine ay HF HS 3 rfl rfl rfl (Yl.load1 rfl rfl (by kernel_rfl) (fun _ h => h.cell (i := 0) rfl rfl)) ?_; clear HF; intro a HF
      refine ay HF HS 4 rfl rfl rfl (Yl.len rfl rfl (by kernel_rfl)) ?_; clear HF; intro a HF
      refine ap HF (fun _ => HS) [5, 6, 7] #[true, true, true, true, true, true, true, true, false, false, false, false, false] [(95, .bool ((((tkRest (tkRest (tkRest l))).length : Nat) : Int) == (0 : Int))), (94, .bool ((((tkRest (tkRest (tkRest l))).length : Nat) : Int) == (0 : Int))), (93, .bool ((((tkRest (tkRest (tkRest l))).length : Nat) : Int) == (0 : Int)))] ?_; clear HF; intro a HF
      rcases Bool.eq_false_or_eq_true ((((tkRest (tkRest (tkRest l))).length : Nat) : Int) == (0 : Int)) with hb95 | hb95
      ·have HF := HF.on 95 hb95
       have hd95 := eq_of_beq hb95
       refine ay HF HS 8 rfl rfl rfl (v := .agg #[vB (1 : Nat), vB (tkVal 63 l), vI (tkVal 281474976710656 (tkRest l)), vI 0, .slice none 0 0]) (Yl.loadS rfl rfl si_bk rfl (fun _ h => range_of_block (h.blk (i := 2) rfl))) ?_; clear HF; intro a HF
       refine any_all [9] (by kernel_rfl) rfl ?_
       refine all_cons ?_ all_nil
       refine any_op HF (i := 9) rfl rfl ?_
       refine e_call HF (vs := [.agg #[vB (1 : Nat), vB (tkVal 63 l), vI (tkVal 281474976710656 (tkRest l)), vI 0, .slice none 0 0]]) rfl (by kernel_rfl) (by kernel_rfl) rfl (by decide) (fits_any ⟨1, tkVal 63 l, (tkVal 281474976710656 (tkRest l) : Int), 0, []⟩ (evsOk (by omega) (by omega) (by simp)) none 0 B _ (hL.mem HM hB) (HM.le hB) Rd.nil (by show 0 ≤ _; omega)) ?_
       rintro _ w97 ⟨rfl, hbw⟩
       refine ⟨_, rfl, ?_⟩
       replace HM := HM.call hbw
       clear HF; intro a HF
       refine keepS (HM.picks [0, 1, 2] (by decide) rfl) (fun HS => ?_)
       refine ap HF (fun _ => HS) [10] #[true, true, true, true, true, true, true, true, true, true, true, false, false] [(98, .bool (Bk.fits ⟨1, tkVal 63 l, (tkVal 281474976710656 (tkRest l) : Int), 0, []⟩))] ?_; clear HF; intro a HF
       refine any_all [11] (by kernel_rfl) rfl ?_
       refine all_cons ?_ all_nil
       refine any_op HF (i := 11) rfl rfl ?_
       refine e_storeAll HF HM (i := 3) (cs := #[vB 0, vB 0, vI 0, vI 0, .slice none 0 0]) (ds := #[vB (1 : Nat), vB (tkVal 63 l), vI (tkVal 281474976710656 (tkRest l)), vI 0, .slice none 0 0]) rfl rfl rfl rfl si_bk rfl rfl (by simp [Value.oneCell']) rfl ?_
       clear HM; intro w15_11 HM
       refine keepS (HM.picks [0, 1, 2] (by decide) rfl) (fun HS => ?_)
       refine ap HF (fun _ => HS) [12] #[true, true, true, true, true, true, true, true, true, true, true, true, true] [(5, .bool (Bk.fits ⟨1, tkVal 63 l, (tkVal 281474976710656 (tkRest l) : Int), 0, []⟩))] ?_; clear HF; intro a HF
       refine any_done (by kernel_rfl) ?_
       have HF := HF.as (t := 5) (u := .bool ((parseEvs l).isSome)) rfl (congrArg Value.bool (by rw [few_is (l := l) (fun hh => by have h0 := hh.2; omega), h3, decide_eq_true (by omega), Bool.true_and, Bool.true_and]))
       exact ⟨HF.sub (by kernel_rfl), HM.picks [0, 1, 2, 3] (by decide) rfl⟩
      ·have HF := HF.on 95 hb95
       have hd95 := ne_of_beq_false hb95
       refine ap HF (fun _ => HS) [8, 9, 10] #[true, true, true, true, true, true, true, true, true, true, true, false, false] [(98, .bool false), (97, undef), (96, undef)] ?_; clear HF; intro a HF
       refine any_all [11] (by kernel_rfl) rfl ?_
       refine all_cons ?_ all_nil
       refine any_op HF (i := 11) rfl rfl ?_
       refine e_storeAll HF HM (i := 3) (cs := #[vB 0, vB 0, vI 0, vI 0, .slice none 0 0]) (ds := #[vB (1 : Nat), vB (tkVal 63 l), vI (tkVal 281474976710656 (tkRest l)), vI 0, .slice none 0 0]) rfl rfl rfl rfl si_bk rfl rfl (by simp [Value.oneCell']) rfl ?_
       clear HM; intro w15_11 HM
       refine keepS (HM.picks [0, 1, 2] (by decide) rfl) (fun HS => ?_)
       refine ap HF (fun _ => HS) [12] #[true, true, true, true, true, true, true, true, true, true, true, true, true] [(5, .bool false)] ?_; clear HF; intro a HF
       refine any_done (by kernel_rfl) ?_
       have HF := HF.as (t := 5) (u := .bool ((parseEvs l).isSome)) rfl (congrArg Value.bool (by rw [few_is (l := l) (fun hh => by have h0 := hh.2; omega), decide_eq_false (by omega), Bool.false_and, Bool.and_false]))
       exact ⟨HF.sub (by kernel_rfl), HM.picks [0, 1, 2, 3] (by decide) rfl⟩
     ·have HF := HF.on 90 hb90
      refine ap HF (fun _ => HS) [3, 4, 5, 6, 7, 8, 9, 10] #[true, true, true, true, true, true, true, true, true, true, true, false, false] [(98, .bool false), (97, undef), (96, undef), (95, .bool false), (94, .bool false), (93, undef), (92, undef), (91, undef)] ?_; clear HF; intro a HF
      refine any_all [11] (by kernel_rfl) rfl ?_
      refine all_cons ?_ all_nil
      refine any_op HF (i := 11) rfl rfl ?_
      refine e_storeAll HF HM (i := 3) (cs := #[vB 0, vB 0, vI 0, vI 0, .slice none 0 0]) (ds := #[vB (1 : Nat), vB (tkVal 63 l), vI (tkVal 281474976710656 (tkRest l)), vI 0, .slice none 0 0]) rfl rfl rfl rfl si_bk rfl rfl (by simp [Value.oneCell']) rfl ?_
      clear HM; intro w15_11 HM
      refine keepS (HM.picks [0, 1, 2] (by decide) rfl) (fun HS => ?_)
      refine ap HF (fun _ => HS) [12] #[true, true, true, true, true, true, true, true, true, true, true, true, true] [(5, .bool false)] ?_; clear HF; intro a HF
      refine any_done (by kernel_rfl) ?_
      have HF := HF.as (t := 5) (u := .bool ((parseEvs l).isSome)) rfl (congrArg Value.bool (by have h9 := hb90; rw [tk3] at h9; rw [few_is (l := l) (fun hh => by have h0 := hh.2; omega), h9, Bool.false_and]))
      exact ⟨HF.sub (by kernel_rfl), HM.picks [0, 1, 2, 3] (by decide) rfl⟩
    clear HF HM; rintro a w15 ⟨HF, HM⟩
    refine wp_ret ?_
    rcases Bool.eq_false_or_eq_true ((parseEvs l).isSome) with hb5 | hb5
    ·have HF := HF.on 5 hb5
     have hfin := hb5
     exact ret2 rfl HF (.cellS (i := 3) HF HM rfl rfl si_bk rfl) (.tmp HF rfl) (parseIs_some (b := ⟨1, tkVal 63 l, (tkVal 281474976710656 (tkRest l) : Int), 0, []⟩) (A := none) (c := 0) (by rw [parseR_evs]; exact few_val (fun hh => by have h0 := hh.2; omega) hfin) (World.ownsRow_nil _ _ _ _) (Nat.le_refl _) HM.below)
    ·have HF := HF.on 5 hb5
     have hfin := hb5
     exact ret2 rfl HF (.cellS (i := 3) HF HM rfl rfl si_bk rfl) (.tmp HF rfl) (parseIs_none (by rw [parseR_evs]; exact Option.not_isSome_iff_eq_none.1 (by rw [hfin]; decide)) rfl (by simp [Value.oneCell']) HM.below)
  ·have HF := HF.on 43 hb43
   have h3 : parse3 l = false := by rw [← tk3]; exact hb43
   refine fp HF 3 2 [(46, .bool false), (45, undef), (44, undef)] ?_; clear HF; intro a HF
   refine from_done rfl ?_
   replace HF := HF.to [(46, .bool false), (9, vI (tkVal 4096 (tkRest (tkRest l)))), (18, .bool false), (8, vP g8 0), (7, .func (.func 44) #[] #[vP g3 0, vP g6 0]), (6, vP g6 0), (5, .bool false), (4, vP g4 0), (3, vP g3 0), (0, vB (1 : Nat))]
   refine cond_false HF rfl (wp_skip ?_)
   refine cut_seq (fun aS wS => Fr aS 99 [] [(5, .bool ((parseEvs l).isSome)), (46, .bool false), (9, vI (tkVal 4096 (tkRest (tkRest l)))), (18, .bool false), (8, vP g8 0), (7, .func (.func 44) #[] #[vP g3 0, vP g6 0]), (6, vP g6 0), (4, vP g4 0), (3, vP g3 0), (0, vB (1 : Nat))] ∧ Mem w wS [.blk g3 #[.slice Aq3 ((tkRest (tkRest (tkRest l))).length) cq3] 22, .blk g6 #[.bool (((true && tkOk 63 l) && tkOk 281474976710656 (tkRest l)) && tkOk 4096 (tkRest (tkRest l)))] 4, .blk g8 #[vB (1 : Nat), vB (tkVal 63 l), vI (tkVal 281474976710656 (tkRest l)), vI 0, .slice none 0 0] 27, .blk g4 #[vB (1 : Nat), vB (tkVal 63 l), vI (tkVal 281474976710656 (tkRest l)), vI 0, .slice none 0 0] 27]) ?_ ?_
   ·
    refine any_start (by kernel_rfl) (fun wS => Mem w wS [.blk g3 #[.slice Aq3 ((tkRest (tkRest (tkRest l))).length) cq3] 22, .blk g6 #[.bool (((true && tkOk 63 l) && tkOk 281474976710656 (tkRest l)) && tkOk 4096 (tkRest (tkRest l)))] 4, .blk g8 #[vB (1 : Nat), vB (tkVal 63 l), vI (tkVal 281474976710656 (tkRest l)), vI 0, .slice none 0 0] 27]) [] ?_
    replace HM := HM.drew
    have HS := HM.picks (fs' := [.blk g3 #[.slice Aq3 ((tkRest (tkRest (tkRest l))).length) cq3] 22, .blk g6 #[.bool (((true && tkOk 63 l) && tkOk 281474976710656 (tkRest l)) && tkOk 4096 (tkRest (tkRest l)))] 4, .blk g8 #[vB (1 : Nat), vB (tkVal 63 l), vI (tkVal 281474976710656 (tkRest l)), vI 0, .slice none 0 0] 27]) [0, 1, 2] (by decide) rfl
    refine ay HF HS 0 rfl rfl rfl (v := .agg #[vB (1 : Nat), vB (tkVal 63 l), vI (tkVal 281474976710656 (tkRest l)), vI 0, .slice none 0 0]) (Yl.loadS rfl rfl si_bk rfl (fun _ h => range_of_block (h.blk (i := 2) rfl))) ?_; clear HF; intro a HF
    refine ay HF HS 1 rfl rfl rfl (Yl.load1 rfl rfl (by kernel_rfl) (fun _ h => h.cell (i := 1) rfl rfl)) ?_; clear HF; intro a HF
    refine ap HF (fun _ => HS) [2] #[true, true, true, false, false, false, false, false, false, false, false, false, false] [(90, .bool (((true && tkOk 63 l) && tkOk 281474976710656 (tkRest l)) && tkOk 4096 (tkRest (tkRest l))))] ?_; clear HF; intro a HF
    rcases Bool.eq_false_or_eq_true ((((true && tkOk 63 l) && tkOk 281474976710656 (tkRest l)) && tkOk 4096 (tkRest (tkRest l)))) with hb90 | hb90
    ·have HF := HF.on 90 hb90
     refine ay HF HS 3 rfl rfl rfl (Yl.load1 rfl rfl (by kernel_rfl) (fun _ h => h.cell (i := 0) rfl rfl)) ?_; clear HF; intro a HF
     refine ay HF HS 4 rfl rfl rfl (Yl.len rfl rfl (by kernel_rfl)) ?_; clear HF; intro a HF
     refine ap HF (fun _ => HS) [5, 6, 7] #[true, true, true, true, true, true, true, true, false, false, false, false, false] [(95, .bool ((((tkRest (tkRest (tkRest l))).length : Nat) : Int) == (0 : Int))), (94, .bool ((((tkRest (tkRest (tkRest l))).length : Nat) : Int) == (0 : Int))), (93, .bool ((((tkRest (tkRest (tkRest l))).length : Nat) : Int) == (0 : Int)))] ?_; clear HF; intro a HF
     rcases Bool.eq_false_or_eq_true ((((tkRest (tkRest (tkRest l))).length : Nat) : Int) == (0 : Int)) with hb95 | hb95
     ·have HF := HF.on 95 hb95
      have hd95 := eq_of_beq hb95
      refine ay HF HS 8 rfl rfl rfl (v := .agg #[vB (1 : Nat), vB (tkVal 63 l), vI (tkVal 281474976710656 (tkRest l)), vI 0, .slice none 0 0]) (Yl.loadS rfl rfl si_bk rfl (fun _ h => range_of_block (h.blk (i := 2) rfl))) ?_; clear HF; intro a HF
      refine any_all [9] (by kernel_rfl) rfl ?_
      refine all_cons ?_ all_nil
      refine any_op HF (i := 9) rfl rfl ?_
      refine e_call HF (vs := [.agg #[vB (1 : Nat), vB (tkVal 63 l), vI (tkVal 281474976710656 (tkRest l)), vI 0, .slice none 0 0]]) rfl (by kernel_rfl) (by kernel_rfl) rfl (by decide) (fits_any ⟨1, tkVal 63 l, (tkVal 281474976710656 (tkRest l) : Int), 0, []⟩ (evsOk (by omega) (by omega) (by simp)) none 0 B _ (hL.mem HM hB) (HM.le hB) Rd.nil (by show 0 ≤ _; omega)) ?_
      rintro _ w97 ⟨rfl, hbw⟩
      refine ⟨_, rfl, ?_⟩
      replace HM := HM.call hbw
      clear HF; intro a HF
      refine keepS (HM.picks [0, 1, 2] (by decide) rfl) (fun HS => ?_)
      refine ap HF (fun _ => HS) [10] #[true, true, true, true, true, true, true, true, true, true, true, false, false] [(98, .bool (Bk.fits ⟨1, tkVal 63 l, (tkVal 281474976710656 (tkRest l) : Int), 0, []⟩))] ?_; clear HF; intro a HF
      refine any_all [11] (by kernel_rfl) rfl ?_
      refine all_cons ?_ all_nil
      refine any_op HF (i := 11) rfl rfl ?_
      refine e_storeAll HF HM (i := 3) (cs := #[vB 0, vB 0, vI 0, vI 0, .slice none 0 0]) (ds := #[vB (1 : Nat), vB (tkVal 63 l), vI (tkVal 281474976710656 (tkRest l)), vI 0, .slice none 0 0]) rfl rfl rfl rfl si_bk rfl rfl (by simp [Value.oneCell']) rfl ?_
      clear HM; intro w15_11 HM
      refine keepS (HM.picks [0, 1, 2] (by decide) rfl) (fun HS => ?_)
      refine ap HF (fun _ => HS) [12] #[true, true, true, true, true, true, true, true, true, true, true, true, true] [(5, .bool (Bk.fits ⟨1, tkVal 63 l, (tkVal 281474976710656 (tkRest l) : Int), 0, []⟩))] ?_; clear HF; intro a HF
      refine any_done (by kernel_rfl) ?_
      have HF := HF.as (t := 5) (u := .bool ((parseEvs l).isSome)) rfl (congrArg Value.bool (by have h9 := hb90; rw [tk3, h3] at h9; cases h9))
      exact ⟨HF.sub (by kernel_rfl), HM.picks [0, 1, 2, 3] (by decide) rfl⟩
     ·have HF := HF.on 95 hb95
      have hd95 := ne_of_beq_false hb95
      refine ap HF (fun _ => HS) [8, 9, 10] #[true, true, true, true, true, true, true, true, true, true, true, false, false] [(98, .bool false), (97, undef), (96, undef)] ?_; clear HF; intro a HF
      refine any_all [11] (by kernel_rfl) rfl ?_
      refine all_cons ?_ all_nil
      refine any_op HF (i := 11) rfl rfl ?_
      refine e_storeAll HF HM (i := 3) (cs := #[vB 0, vB 0, vI 0, vI 0, .slice none 0 0]) (ds := #[vB (1 : Nat), vB (tkVal 63 l), vI (tkVal 281474976710656 (tkRest l)), vI 0, .slice none 0 0]) rfl rfl rfl rfl si_bk rfl rfl (by simp [Value.oneCell']) rfl ?_
      clear HM; intro w15_11 HM
      refine keepS (HM.picks [0, 1, 2] (by decide) rfl) (fun HS => ?_)
      refine ap HF (fun _ => HS) [12] #[true, true, true, true, true, true, true, true, true, true, true, true, true] [(5, .bool false)] ?_; clear HF; intro a HF
      refine any_done (by kernel_rfl) ?_
      have HF := HF.as (t := 5) (u := .bool ((parseEvs l).isSome)) rfl (congrArg Value.bool (by have h9 := hb90; rw [tk3, h3] at h9; cases h9))
      exact ⟨HF.sub (by kernel_rfl), HM.picks [0, 1, 2, 3] (by decide) rfl⟩
    ·have HF := HF.on 90 hb90
     refine ap HF (fun _ => HS) [3, 4, 5, 6, 7, 8, 9, 10] #[true, true, true, true, true, true, true, true, true, true, true, false, false] [(98, .bool false), (97, undef), (96, undef), (95, .bool false), (94, .bool false), (93, undef), (92, undef), (91, undef)] ?_; clear HF; intro a HF
     refine any_all [11] (by kernel_rfl) rfl ?_
     refine all_cons ?_ all_nil
     refine any_op HF (i := 11) rfl rfl ?_
     refine e_storeAll HF HM (i := 3) (cs := #[vB 0, vB 0, vI 0, vI 0, .slice none 0 0]) (ds := #[vB (1 : Nat), vB (tkVal 63 l), vI (tkVal 281474976710656 (tkRest l)), vI 0, .slice none 0 0]) rfl rfl rfl rfl si_bk rfl rfl (by simp [Value.oneCell']) rfl ?_
     clear HM; intro w15_11 HM
     refine keepS (HM.picks [0, 1, 2] (by decide) rfl) (fun HS => ?_)
     refine ap HF (fun _ => HS) [12] #[true, true, true, true, true, true, true, true, true, true, true, true, true] [(5, .bool false)] ?_; clear HF; intro a HF
     refine any_done (by kernel_rfl) ?_
     have HF := HF.as (t := 5) (u := .bool ((parseEvs l).isSome)) rfl (congrArg Value.bool (by have h9 := hb90; rw [tk3] at h9; rw [few_is (l := l) (fun hh => by rw [h3] at hh; cases hh.1), h9, Bool.false_and]))
     exact ⟨HF.sub (by kernel_rfl), HM.picks [0, 1, 2, 3] (by decide) rfl⟩
   clear HF HM; rintro a w15 ⟨HF, HM⟩
   refine wp_ret ?_
   rcases Bool.eq_false_or_eq_true ((parseEvs l).isSome) with hb5 | hb5
   ·have HF := HF.on 5 hb5
    have hfin := hb5
    exact ret2 rfl HF (.cellS (i := 3) HF HM rfl rfl si_bk rfl) (.tmp HF rfl) (parseIs_some (b := ⟨1, tkVal 63 l, (tkVal 281474976710656 (tkRest l) : Int), 0, []⟩) (A := none) (c := 0) (by rw [parseR_evs]; exact few_val (fun hh => by rw [h3] at hh; cases hh.1) hfin) (World.ownsRow_nil _ _ _ _) (Nat.le_refl _) HM.below)
   ·have HF := HF.on 5 hb5
    have hfin := hb5
    exact ret2 rfl HF (.cellS (i := 3) HF HM rfl rfl si_bk rfl) (.tmp HF rfl) (parseIs_none (by rw [parseR_evs]; exact Option.not_isSome_iff_eq_none.1 (by rw [hfin]; decide)) rfl (by simp [Value.oneCell']) HM.below)
end Go.Proofs.YtnakabnmjnfpcaaDoor

set_option linter.all false
namespace Go.Proofs.YtnakabnmjnfpcaaDoor
open Go.RowKit
set_option maxRecDepth 100000 in
set_option maxHeartbeats 4000000 in
theorem bread_any (A : Option Addr) (n cp : Nat) (l : List Nat) (B : Nat) (w : World) (hL : LaidX B w) (hB : B ≤ w.heap.size) (hr : Rd w w.heap.size 1 A n (l.map B8)) (hc : n ≤ cp) (hln : l.length = n) (hn : n ≤ 9223372036854775807) (hl : ∀ b ∈ l, b < 256) :
    Calls Tryd.prog 11 #[.slice A n cp] w (BReadIs 46 w (readB l)) := by
 refine calls_enter (vs := [.slice A n cp]) Tryd.func11 rfl rfl (by kernel_rfl) (σ0 := [(0, .slice A n cp)]) rfl ?_
 intro a HF
 have HM := Mem.start w
 refine wp_seq (from_start ?_)
 refine from_op HF (i := 0) rfl rfl ?_
 refine e_alloc HF HM (cs := #[vB 0, vB 0, vI 0, vI 0, .slice none 0 0]) rfl (by kernel_rfl) rfl (by decide) ?_
 clear HF HM; intro a w2 g2 HF HM
 refine fp HF 2 1 [(4, vI 0), (3, vI 0)] ?_; clear HF; intro a HF
 refine from_done rfl ?_
 refine wp_seq (from_start ?_)
 refine fp HF 1 0 [(10, .slice A n cp)] ?_; clear HF; intro a HF
 refine from_op HF (i := 1) rfl rfl ?_
 refine e_call HF (vs := [.slice A n cp]) rfl (by kernel_rfl) (by kernel_rfl) rfl (by decide) (length_any A n cp l _ (HM.old hr) hln hn hl) ?_
 rintro _ w11 ⟨rfl, hbw⟩
 refine ⟨_, rfl, ?_⟩
 replace HM := HM.call hbw
 clear HF; intro a HF
 refine fp HF 5 2 [(6, vI ((lenR l).2)), (5, vI ((lenR l).1)), (13, vI ((lenR l).2)), (12, vI ((lenR l).1)), (9, .tuple #[vI ((lenR l).1), vI ((lenR l).2)])] ?_; clear HF; intro a HF
 refine from_done rfl ?_
 refine wp_seq (wp_seq (from_start ?_))
 refine fp HF 2 0 [(15, .bool (((lenR l).2 : Int) != (0 : Int))), (14, vI ((lenR l).2))] ?_; clear HF; intro a HF
 refine from_done rfl ?_
 rcases Bool.eq_false_or_eq_true (((lenR l).2 : Int) != (0 : Int)) with hb15 | hb15
 ·have HF := HF.on 15 hb15
  have hd15 := bne_iff_ne.1 hb15
  refine cond_true HF rfl (wp_seq (from_start ?_))
  refine fy HF HM 0 rfl rfl rfl (v := .agg #[vB 0, vB 0, vI 0, vI 0, .slice none 0 0]) (Yl.build (vs := []) rfl (by kernel_rfl) (by kernel_rfl)) ?_; clear HF; intro a HF
  refine fp HF 1 1 [(17, vI ((lenR l).2))] ?_; clear HF; intro a HF
  refine from_op HF (i := 2) rfl rfl ?_
  refine e_storeAll HF HM (i := 0) (cs := #[vB 0, vB 0, vI 0, vI 0, .slice none 0 0]) (ds := #[vB 0, vB 0, vI 0, vI 0, .slice none 0 0]) rfl rfl rfl rfl si_bk rfl rfl (by simp [Value.oneCell']) rfl ?_
  clear HM; intro w3_2 HM
  refine fp HF 2 3 [(4, vI ((lenR l).2)), (3, vI 0)] ?_; clear HF; intro a HF
  refine from_done rfl ?_
  refine wp_ret ?_
  exact ret3 rfl HF (.cellS (i := 0) HF HM rfl rfl si_bk rfl) (.tmp HF rfl) (.tmp HF rfl) (breadIs_bad (readB_len (by omega)) HM.below)
 ·have HF := HF.on 15 hb15
  have hd15 := bne_eq_false_iff_eq.1 hb15
  have hl0 : (lenR l).2 = 0 := by omega
  obtain ⟨v1, v2, v3, v4⟩ := lenR_ok hl0
  obtain ⟨Lb, hLb⟩ : ∃ x, x = l.take (lenR l).1 := ⟨_, rfl⟩
  have hrL : Rd w w.heap.size 1 A (lenR l).1 (Lb.map B8) := by rw [hLb]; exact hr.toB8 (by omega)
  have hlL : ∀ b ∈ Lb, b < 256 := by rw [hLb]; exact take_lt hl _
  have hnL : Lb.length = (lenR l).1 := by rw [hLb, List.length_take]; omega
  refine cond_false HF rfl (wp_skip (wp_seq (from_start ?_)))
  refine fp HF 2 0 [(19, vI ((lenR l).1)), (18, .slice A n cp)] ?_; clear HF; intro a HF
  refine fy HF HM 2 rfl rfl rfl (v := .slice A ((lenR l).1) cp) (Yl.sliceUpto ei_u8 (j := (lenR l).1) rfl rfl rfl (by omega)) ?_; clear HF; intro a HF
  refine fp HF 1 3 [(0, .slice A ((lenR l).1) cp)] ?_; clear HF; intro a HF
  refine from_done rfl ?_
  obtain ⟨gA, oA, rfl, _⟩ := hrL.some_at (Nat.lt_of_le_of_lt (Nat.zero_le _) (show 0 < (lenR l).1 from by omega)) (by decide)
  refine wp_seq (wp_block (wp_seq (from_start ?_)))
  refine fp HF 1 0 [(22, .slice (some ⟨gA, oA, none⟩) ((lenR l).1) cp)] ?_; clear HF; intro a HF
  refine from_op HF (i := 1) rfl rfl ?_
  refine e_call HF (vs := [.slice (some ⟨gA, oA, none⟩) ((lenR l).1) cp]) rfl (by kernel_rfl) (by kernel_rfl) rfl (by decide) (sealed_any _ (lenR l).1 cp Lb B _ (hL.mem HM hB) (HM.le hB) (HM.old hrL) (by omega) hnL (by omega) hlL) ?_
  rintro _ w23 ⟨rfl, hbw⟩
  refine ⟨_, rfl, ?_⟩
  replace HM := HM.call hbw
  clear HF; intro a HF
  refine fp HF 2 2 [(21, .bool (!(sealedR Lb))), (24, .bool (!(sealedR Lb)))] ?_; clear HF; intro a HF
  refine from_done rfl ?_
  rcases Bool.eq_false_or_eq_true (!(sealedR Lb)) with hb21 | hb21
  ·have HF := HF.on 21 hb21
   have hs : sealedR Lb = false := by simpa using hb21
   refine cond_true HF rfl (wp_seq (from_start ?_))
   refine fy HF HM 0 rfl rfl rfl (v := .agg #[vB 0, vB 0, vI 0, vI 0, .slice none 0 0]) (Yl.build (vs := []) rfl (by kernel_rfl) (by kernel_rfl)) ?_; clear HF; intro a HF
   refine from_op HF (i := 1) rfl rfl ?_
   refine e_storeAll HF HM (i := 0) (cs := #[vB 0, vB 0, vI 0, vI 0, .slice none 0 0]) (ds := #[vB 0, vB 0, vI 0, vI 0, .slice none 0 0]) rfl rfl rfl rfl si_bk rfl rfl (by simp [Value.oneCell']) rfl ?_
   clear HM; intro w6_1 HM
   refine fp HF 2 2 [(4, vI 102), (3, vI 0)] ?_; clear HF; intro a HF
   refine from_done rfl ?_
   replace HF := HF.to [(4, vI 102), (3, vI 0), (21, .bool true), (0, .slice (some ⟨gA, oA, none⟩) ((lenR l).1) cp), (15, .bool false), (6, vI ((lenR l).2)), (5, vI ((lenR l).1)), (2, vP g2 0)]
   refine wp_ret ?_
   exact ret3 rfl HF (.cellS (i := 0) HF HM rfl rfl si_bk rfl) (.tmp HF rfl) (.tmp HF rfl) (breadIs_bad (readB_none hl0 hLb (by unfold blkOf; rw [if_pos hs])) HM.below)
  ·have HF := HF.on 21 hb21
   have hs : sealedR Lb = true := by simpa using hb21
   refine cond_false HF rfl (wp_seq ?_)
   refine any_start (by kernel_rfl) (fun wS => Mem w wS [.blk g2 #[vB 0, vB 0, vI 0, vI 0, .slice none 0 0] 27]) [] ?_
   replace HM := HM.drew
   have HS := HM.picks (fs' := [.blk g2 #[vB 0, vB 0, vI 0, vI 0, .slice none 0 0] 27]) [0] (by decide) rfl
   refine ap HF (fun _ => HS) [0] #[true, false, false, false, false, false, false] [(27, .slice (some ⟨gA, oA, none⟩) ((lenR l).1) cp)] ?_; clear HF; intro a HF
   refine ay HF HS 1 rfl rfl rfl (v := .slice (if cp = 4 then some ⟨gA, oA, none⟩ else (some ⟨gA, oA, none⟩ : Option Addr).map (·.add (4 * 1))) (6 - 4) (cp - 4)) (Yl.slice2 ei_u8 (i := 4) (j := 6) rfl rfl rfl rfl (by omega) (by omega)) ?_; clear HF; intro a HF
   replace HF := HF.as (t := 28) (u := .slice (some ⟨gA, oA + 4, none⟩) (6 - 4) (cp - 4)) rfl (by simp only [if_neg (show ¬ cp = 4 by omega), Option.map_some, Addr.add_mid, Nat.mul_one])
   refine ay HF HS 2 rfl rfl rfl (v := vP gA (oA + 4)) (Yl.arrayAt (k := 2) rfl rfl (by kernel_rfl) (by omega)) ?_; clear HF; intro a HF
   refine ay HF HS 3 rfl rfl rfl (v := .agg #[vB (Lb.getD 4 0), vB (Lb.getD 5 0)]) (Yl.loadS rfl rfl si_a2 rfl (fun _ h => arr2At (k := 4) (l := Lb) (h.old hrL) (by omega))) ?_; clear HF; intro a HF
   refine ay HF HS 4 rfl rfl rfl (v := .agg #[vB 113, vB 116]) (Yl.loadS rfl rfl si_a2 rfl (fun _ h => magicAll hL h hB)) ?_; clear HF; intro a HF
   refine ay HF HS 5 rfl rfl rfl (v := .bool (!(((Lb.getD 4 0 : Int) == (113 : Int)) && ((Lb.getD 5 0 : Int) == (116 : Int))))) (Yl.neqArr2 rfl rfl rfl (by kernel_rfl) (by kernel_rfl)) ?_; clear HF; intro a HF
   refine ap HF (fun _ => HS) [6] #[true, true, true, true, true, true, true] [(26, .bool (!(((Lb.getD 4 0 : Int) == (113 : Int)) && ((Lb.getD 5 0 : Int) == (116 : Int)))))] ?_; clear HF; intro a HF
   refine any_done (by kernel_rfl) ?_
   replace HF := HF.to [(26, .bool (!(((Lb.getD 4 0 : Int) == (113 : Int)) && ((Lb.getD 5 0 : Int) == (116 : Int))))), (21, .bool false), (0, .slice (some ⟨gA, oA, none⟩) ((lenR l).1) cp), (15, .bool false), (6, vI ((lenR l).2)), (5, vI ((lenR l).1)), (4, vI 0), (3, vI 0), (2, vP g2 0)]
   rcases Bool.eq_false_or_eq_true (!(((Lb.getD 4 0 : Int) == (113 : Int)) && ((Lb.getD 5 0 : Int) == (116 : Int)))) with hb26 | hb26
   ·have HF := HF.on 26 hb26
    simp only [Bool.not_eq_true', Bool.and_eq_false_iff, beq_eq_false_iff_ne] at hb26
    have hmg : ¬ (Lb.getD 4 0 = 113 ∧ Lb.getD 5 0 = 116) := by omega
    refine cond_true HF rfl (wp_seq (from_start ?_))
    refine fy HF HM 0 rfl rfl rfl (v := .agg #[vB 0, vB 0, vI 0, vI 0, .slice none 0 0]) (Yl.build (vs := []) rfl (by kernel_rfl) (by kernel_rfl)) ?_; clear HF; intro a HF
    refine from_op HF (i := 1) rfl rfl ?_
    refine e_storeAll HF HM (i := 0) (cs := #[vB 0, vB 0, vI 0, vI 0, .slice none 0 0]) (ds := #[vB 0, vB 0, vI 0, vI 0, .slice none 0 0]) rfl rfl rfl rfl si_bk rfl rfl (by simp [Value.oneCell']) rfl ?_
    clear HM; intro w8_1 HM
    refine fp HF 2 2 [(4, vI 103), (3, vI 0)] ?_; clear HF; intro a HF
    refine from_done rfl ?_
    refine wp_ret ?_
    exact ret3 rfl HF (.cellS (i := 0) HF HM rfl rfl si_bk rfl) (.tmp HF rfl) (.tmp HF rfl) (breadIs_bad (readB_none hl0 hLb (by unfold blkOf; rw [if_neg (by rw [hs]; decide), if_pos hmg])) HM.below)
   ·have HF := HF.on 26 hb26
    simp only [Bool.not_eq_false', Bool.and_eq_true, beq_iff_eq] at hb26
    have hmg : Lb.getD 4 0 = 113 ∧ Lb.getD 5 0 = 116 := by omega
    refine cond_false HF rfl (wp_seq (from_start ?_))
    refine fp HF 1 0 [(35, .slice (some ⟨gA, oA, none⟩) ((lenR l).1) cp)] ?_; clear HF; intro a HF
    refine fy HF HM 1 rfl rfl rfl (v := vP gA (oA + 6)) (Yl.indexAddr (ad := ⟨gA, oA, none⟩) (y := 6) (sz := 1) rfl rfl rfl (by omega) (by kernel_rfl)) ?_; clear HF; intro a HF
    have hx126 := getD_lt hlL (k := 6) (by first | omega | (simp; omega))
    refine fy HF HM 2 rfl rfl rfl (v := vB (Lb.getD 6 0)) (Yl.load1 rfl rfl (by kernel_rfl) (fun _ h => (h.old hrL).oneAt1 (k := 6) (map_at (F := B8) (k := 6) (x := (Lb.getD 6 0)) ((getD_at 0 (k := 6) (by first | omega | (simp; omega))))))) ?_; clear HF; intro a HF
    refine fp HF 2 3 [(34, .bool (((Lb.getD 6 0) : Int) != (1 : Int))), (38, .bool (((Lb.getD 6 0) : Int) != (1 : Int)))] ?_; clear HF; intro a HF
    refine from_done rfl ?_
    rcases Bool.eq_false_or_eq_true (((Lb.getD 6 0) : Int) != (1 : Int)) with hb34 | hb34
    ·have HF := HF.on 34 hb34
     have hd34 := bne_iff_ne.1 hb34
     refine cond_true HF rfl (wp_seq (from_start ?_))
     refine fy HF HM 0 rfl rfl rfl (v := .agg #[vB 0, vB 0, vI 0, vI 0, .slice none 0 0]) (Yl.build (vs := []) rfl (by kernel_rfl) (by kernel_rfl)) ?_; clear HF; intro a HF
     refine from_op HF (i := 1) rfl rfl ?_
     refine e_storeAll HF HM (i := 0) (cs := #[vB 0, vB 0, vI 0, vI 0, .slice none 0 0]) (ds := #[vB 0, vB 0, vI 0, vI 0, .slice none 0 0]) rfl rfl rfl rfl si_bk rfl rfl (by simp [Value.oneCell']) rfl ?_
     clear HM; intro w10_1 HM
     refine fp HF 2 2 [(4, vI 104), (3, vI 0)] ?_; clear HF; intro a HF
     refine from_done rfl ?_
     refine wp_ret ?_
     exact ret3 rfl HF (.cellS (i := 0) HF HM rfl rfl si_bk rfl) (.tmp HF rfl) (.tmp HF rfl) (breadIs_bad (readB_none hl0 hLb (by unfold blkOf; rw [if_neg (by rw [hs]; decide), if_neg (fun hh => hh hmg), if_pos (by omega)])) HM.below)
    ·have HF := HF.on 34 hb34
     have hd34 := bne_eq_false_iff_eq.1 hb34
     refine cond_false HF rfl (wp_seq (from_start ?_))
     refine fp HF 1 0 [(41, .slice (some ⟨gA, oA, none⟩) ((lenR l).1) cp)] ?_; clear HF; intro a HF
     refine fy HF HM 1 rfl rfl rfl (v := vP gA (oA + 7)) (Yl.indexAddr (ad := ⟨gA, oA, none⟩) (y := 7) (sz := 1) rfl rfl rfl (by omega) (by kernel_rfl)) ?_; clear HF; intro a HF
     have hx151 := getD_lt hlL (k := 7) (by first | omega | (simp; omega))
     refine fy HF HM 2 rfl rfl rfl (v := vB (Lb.getD 7 0)) (Yl.load1 rfl rfl (by kernel_rfl) (fun _ h => (h.old hrL).oneAt1 (k := 7) (map_at (F := B8) (k := 7) (x := (Lb.getD 7 0)) ((getD_at 0 (k := 7) (by first | omega | (simp; omega))))))) ?_; clear HF; intro a HF
     refine fp HF 2 3 [(45, .bool (((Lb.getD 7 0) : Int) != (1 : Int))), (44, .bool (((Lb.getD 7 0) : Int) != (1 : Int)))] ?_; clear HF; intro a HF
     rcases Bool.eq_false_or_eq_true (((Lb.getD 7 0) : Int) != (1 : Int)) with hb45 | hb45
     ·have HF := HF.on 45 hb45
      have hd45 := bne_iff_ne.1 hb45
      refine fp HF 1 5 [(46, .slice (some ⟨gA, oA, none⟩) ((lenR l).1) cp)] ?_; clear HF; intro a HF
      refine fy HF HM 6 rfl rfl rfl (v := vP gA (oA + 7)) (Yl.indexAddr (ad := ⟨gA, oA, none⟩) (y := 7) (sz := 1) rfl rfl rfl (by omega) (by kernel_rfl)) ?_; clear HF; intro a HF
      have hx159 := getD_lt hlL (k := 7) (by first | omega | (simp; omega))
      refine fy HF HM 7 rfl rfl rfl (v := vB (Lb.getD 7 0)) (Yl.load1 rfl rfl (by kernel_rfl) (fun _ h => (h.old hrL).oneAt1 (k := 7) (map_at (F := B8) (k := 7) (x := (Lb.getD 7 0)) ((getD_at 0 (k := 7) (by first | omega | (simp; omega))))))) ?_; clear HF; intro a HF
      refine fp HF 3 8 [(40, .bool (((Lb.getD 7 0) : Int) != (2 : Int))), (50, .bool (((Lb.getD 7 0) : Int) != (2 : Int))), (49, .bool (((Lb.getD 7 0) : Int) != (2 : Int)))] ?_; clear HF; intro a HF
      refine from_done rfl ?_
      replace HF := HF.to [(40, .bool (((Lb.getD 7 0) : Int) != (2 : Int))), (34, .bool false), (26, .bool false), (21, .bool false), (0, .slice (some ⟨gA, oA, none⟩) ((lenR l).1) cp), (15, .bool false), (6, vI ((lenR l).2)), (5, vI ((lenR l).1)), (4, vI 0), (3, vI 0), (2, vP g2 0)]
      rcases hp : parseR (Lb.getD 7 0) ((Lb.take (Lb.length - 4)).drop 8) with _ | b
      ·
       rcases Bool.eq_false_or_eq_true (((Lb.getD 7 0) : Int) != (2 : Int)) with hb40 | hb40
       ·have HF := HF.on 40 hb40
        have hd40 := bne_iff_ne.1 hb40
        have hkd : Lb.getD 7 0 ≠ 1 ∧ Lb.getD 7 0 ≠ 2 := by omega
        refine cond_true HF rfl (wp_seq (from_start ?_))
        refine fy HF HM 0 rfl rfl rfl (v := .agg #[vB 0, vB 0, vI 0, vI 0, .slice none 0 0]) (Yl.build (vs := []) rfl (by kernel_rfl) (by kernel_rfl)) ?_; clear HF; intro a HF
        refine from_op HF (i := 1) rfl rfl ?_
        refine e_storeAll HF HM (i := 0) (cs := #[vB 0, vB 0, vI 0, vI 0, .slice none 0 0]) (ds := #[vB 0, vB 0, vI 0, vI 0, .slice none 0 0]) rfl rfl rfl rfl si_bk rfl rfl (by simp [Value.oneCell']) rfl ?_
        clear HM; intro w12_1 HM
        refine fp HF 2 2 [(4, vI 105), (3, vI 0)] ?_; clear HF; intro a HF
        refine from_done rfl ?_
        refine wp_ret ?_
        exact ret3 rfl HF (.cellS (i := 0) HF HM rfl rfl si_bk rfl) (.tmp HF rfl) (.tmp HF rfl) (breadIs_bad (readB_none hl0 hLb (by unfold blkOf; rw [if_neg (by rw [hs]; decide), if_neg (fun hh => hh hmg), if_neg (by omega), if_pos hkd])) HM.below)
       ·have HF := HF.on 40 hb40
        have hd40 := bne_eq_false_iff_eq.1 hb40
        have hkd : Lb.getD 7 0 = 1 ∨ Lb.getD 7 0 = 2 := by omega
        refine cond_false HF rfl (wp_skip ?_)
        refine cut_seq (fun aS wS => ∃ (cs : Array Value) (g7 : Nat), Fr aS 68 [] [(8, .bool false), (7, vP g7 0), (40, .bool false), (34, .bool false), (26, .bool false), (21, .bool false), (0, .slice (some ⟨gA, oA, none⟩) ((lenR l).1) cp), (15, .bool false), (6, vI ((lenR l).2)), (5, vI ((lenR l).1)), (4, vI 0), (3, vI 0), (2, vP g2 0)] ∧ Mem w wS [.blk g7 cs 27, .blk g2 #[vB 0, vB 0, vI 0, vI 0, .slice none 0 0] 27] ∧ (cs.size = 5) ∧ (∀ v ∈ cs.toList, v.oneCell' = true)) ?_ ?_
        ·
         refine any_start (by kernel_rfl) (fun wS => Mem w wS [.blk g2 #[vB 0, vB 0, vI 0, vI 0, .slice none 0 0] 27]) [12] ?_
         replace HM := HM.drew
         have HS := HM.picks (fs' := [.blk g2 #[vB 0, vB 0, vI 0, vI 0, .slice none 0 0] 27]) [0] (by decide) rfl
         refine ap HF (fun _ => HS) [0, 3, 4] #[true, false, false, true, true, false, false, false, false, false, false, false, false, false] [(57, vI ((lenR l).1)), (56, .slice (some ⟨gA, oA, none⟩) ((lenR l).1) cp), (53, .slice (some ⟨gA, oA, none⟩) ((lenR l).1) cp)] ?_; clear HF; intro a HF
         refine ay HF HS 1 rfl rfl rfl (v := vP gA (oA + 7)) (Yl.indexAddr (ad := ⟨gA, oA, none⟩) (y := 7) (sz := 1) rfl rfl rfl (by omega) (by kernel_rfl)) ?_; clear HF; intro a HF
         have hx193 := getD_lt hlL (k := 7) (by first | omega | (simp; omega))
         refine ay HF HS 2 rfl rfl rfl (v := vB (Lb.getD 7 0)) (Yl.load1 rfl rfl (by kernel_rfl) (fun _ h => (h.old hrL).oneAt1 (k := 7) (map_at (F := B8) (k := 7) (x := (Lb.getD 7 0)) ((getD_at 0 (k := 7) (by first | omega | (simp; omega))))))) ?_; clear HF; intro a HF
         refine any_pure HF (fun _ => HS) (i := 5) rfl rfl (d := 58) rfl (by decide) (by kernel_rfl) (fun _ _ _ h => h) (v := vI (IntKind.i64.wrap (((lenR l).1 : Int) - 4))) (fun _ => Yl.pure (by kernel_rfl)) ?_; clear HF; intro a HF
         replace HF := HF.as (t := 58) (u := vI ((lenR l).1 - 4 : Nat)) rfl (i64_nat (by omega) (by omega))
         refine ay HF HS 6 rfl rfl rfl (v := .slice (if cp = 8 then some ⟨gA, oA, none⟩ else (some ⟨gA, oA, none⟩ : Option Addr).map (·.add (8 * 1))) (((lenR l).1 - 4) - 8) (cp - 8)) (Yl.slice2 ei_u8 (i := 8) (j := (lenR l).1 - 4) rfl rfl rfl rfl (by omega) (by omega)) ?_; clear HF; intro a HF
         refine any_all [7, 11] (by kernel_rfl) rfl ?_
         refine all_cons ?_ ?_
         ·refine any_op HF (i := 7) rfl rfl ?_
          refine e_call HF (vs := [vB (Lb.getD 7 0), .slice (if cp = 8 then some ⟨gA, oA, none⟩ else (some ⟨gA, oA, none⟩ : Option Addr).map (·.add (8 * 1))) (((lenR l).1 - 4) - 8) (cp - 8)]) rfl (by kernel_rfl) (by kernel_rfl) rfl (by decide) ((parse_any (Lb.getD 7 0) hkd _ (((lenR l).1 - 4) - 8) (cp - 8) ((Lb.take (Lb.length - 4)).drop 8) B _ (hL.mem HM hB) (HM.le hB) (HM.old (by rw [hnL]; exact hrL.midB8 (i := 8) (j := (lenR l).1 - 4) (by omega) (by omega) (by omega))) (by omega) (by rw [List.length_drop, List.length_take]; omega) (by omega) (drop_lt (take_lt hlL _) _)).mono (fun _ _ h => h.none hp)) ?_
          rintro _ w60 ⟨⟨cs, rfl, hs5, h1⟩, hbw⟩
          refine ⟨_, rfl, ?_⟩
          replace HM := HM.call hbw
          clear HF; intro a HF
          refine keepS (HM.picks [0] (by decide) rfl) (fun HS => ?_)
          refine ap HF (fun _ => HS) [8, 9, 10] #[true, true, true, true, true, true, true, true, true, true, true, false, false, false] [(62, .bool false), (61, .agg cs), (52, .tuple #[.agg cs, .bool false])] ?_; clear HF; intro a HF
          refine any_all [11] (by kernel_rfl) rfl ?_
          refine all_cons ?_ all_nil
          refine any_op HF (i := 11) rfl rfl ?_
          refine e_alloc HF HM (cs := #[vB 0, vB 0, vI 0, vI 0, .slice none 0 0]) rfl (by kernel_rfl) rfl (by decide) ?_
          clear HF HM; intro a w7 g7 HF HM
          refine keepS (HM.picks [1] (by decide) rfl) (fun HS => ?_)
          refine any_all [12] (by kernel_rfl) rfl ?_
          refine all_cons ?_ all_nil
          refine any_op HF (i := 12) rfl rfl ?_
          refine e_storeAll HF HM (i := 0) (cs := #[vB 0, vB 0, vI 0, vI 0, .slice none 0 0]) (ds := cs) rfl rfl rfl rfl si_bk rfl hs5 (h1) rfl ?_
          clear HM; intro w13_12 HM
          refine noS (by kernel_rfl) ?_
          refine ap HF (pastS (by kernel_rfl)) [13] #[true, true, true, true, true, true, true, true, true, true, true, true, true, true] [(8, .bool false)] ?_; clear HF; intro a HF
          refine any_done (by kernel_rfl) ?_
          exact ⟨cs, g7, HF.sub (by kernel_rfl), HM.picks [0, 1] (by decide) rfl, hs5, h1⟩
         refine all_cons ?_ all_nil
         refine any_op HF (i := 11) rfl rfl ?_
         refine e_alloc HF HM (cs := #[vB 0, vB 0, vI 0, vI 0, .slice none 0 0]) rfl (by kernel_rfl) rfl (by decide) ?_
         clear HF HM; intro a w7 g7 HF HM
         refine keepS (HM.picks [1] (by decide) rfl) (fun HS => ?_)
         refine any_all [7] (by kernel_rfl) rfl ?_
         refine all_cons ?_ all_nil
         refine any_op HF (i := 7) rfl rfl ?_
         refine e_call HF (vs := [vB (Lb.getD 7 0), .slice (if cp = 8 then some ⟨gA, oA, none⟩ else (some ⟨gA, oA, none⟩ : Option Addr).map (·.add (8 * 1))) (((lenR l).1 - 4) - 8) (cp - 8)]) rfl (by kernel_rfl) (by kernel_rfl) rfl (by decide) ((parse_any (Lb.getD 7 0) hkd _ (((lenR l).1 - 4) - 8) (cp - 8) ((Lb.take (Lb.length - 4)).drop 8) B _ (hL.mem HM hB) (HM.le hB) (HM.old (by rw [hnL]; exact hrL.midB8 (i := 8) (j := (lenR l).1 - 4) (by omega) (by omega) (by omega))) (by omega) (by rw [List.length_drop, List.length_take]; omega) (by omega) (drop_lt (take_lt hlL _) _)).mono (fun _ _ h => h.none hp)) ?_
         rintro _ w60 ⟨⟨cs, rfl, hs5, h1⟩, hbw⟩
         refine ⟨_, rfl, ?_⟩
         replace HM := HM.call hbw
         clear HF; intro a HF
         refine keepS (HM.picks [1] (by decide) rfl) (fun HS => ?_)
         refine ap HF (fun _ => HS) [8, 9, 10] #[true, true, true, true, true, true, true, true, true, true, true, true, false, false] [(62, .bool false), (61, .agg cs), (52, .tuple #[.agg cs, .bool false])] ?_; clear HF; intro a HF
         refine any_all [12] (by kernel_rfl) rfl ?_
         refine all_cons ?_ all_nil
         refine any_op HF (i := 12) rfl rfl ?_
         refine e_storeAll HF HM (i := 0) (cs := #[vB 0, vB 0, vI 0, vI 0, .slice none 0 0]) (ds := cs) rfl rfl rfl rfl si_bk rfl hs5 (h1) rfl ?_
         clear HM; intro w13_12 HM
         refine noS (by kernel_rfl) ?_
         refine ap HF (pastS (by kernel_rfl)) [13] #[true, true, true, true, true, true, true, true, true, true, true, true, true, true] [(8, .bool false)] ?_; clear HF; intro a HF
         refine any_done (by kernel_rfl) ?_
         exact ⟨cs, g7, HF.sub (by kernel_rfl), HM.picks [0, 1] (by decide) rfl, hs5, h1⟩
        clear HF HM; rintro a w13 ⟨cs, g7, HF, HM, hs5, h1⟩
        refine wp_seq (wp_seq (from_start ?_))
        refine fp HF 2 0 [(64, .bool true), (63, .bool false)] ?_; clear HF; intro a HF
        refine from_done rfl ?_
        refine cond_true HF rfl (wp_seq (from_start ?_))
        refine fy HF HM 0 rfl rfl rfl (v := .agg #[vB 0, vB 0, vI 0, vI 0, .slice none 0 0]) (Yl.build (vs := []) rfl (by kernel_rfl) (by kernel_rfl)) ?_; clear HF; intro a HF
        refine from_op HF (i := 1) rfl rfl ?_
        refine e_storeAll HF HM (i := 1) (cs := #[vB 0, vB 0, vI 0, vI 0, .slice none 0 0]) (ds := #[vB 0, vB 0, vI 0, vI 0, .slice none 0 0]) rfl rfl rfl rfl si_bk rfl rfl (by simp [Value.oneCell']) rfl ?_
        clear HM; intro w15_1 HM
        refine fp HF 2 2 [(4, vI 106), (3, vI 0)] ?_; clear HF; intro a HF
        refine from_done rfl ?_
        refine wp_ret ?_
        exact ret3 rfl HF (.cellS (i := 1) HF HM rfl rfl si_bk rfl) (.tmp HF rfl) (.tmp HF rfl) (breadIs_bad (readB_none hl0 hLb (by unfold blkOf; rw [if_neg (by rw [hs]; decide), if_neg (fun hh => hh hmg), if_neg (by omega), if_neg (by omega), hp])) HM.below)
      ·
       rcases Bool.eq_false_or_eq_true (((Lb.getD 7 0) : Int) != (2 : Int)) with hb40 | hb40
       ·have HF := HF.on 40 hb40
        have hd40 := bne_iff_ne.1 hb40
        have hkd : Lb.getD 7 0 ≠ 1 ∧ Lb.getD 7 0 ≠ 2 := by omega
        refine cond_true HF rfl (wp_seq (from_start ?_))
        refine fy HF HM 0 rfl rfl rfl (v := .agg #[vB 0, vB 0, vI 0, vI 0, .slice none 0 0]) (Yl.build (vs := []) rfl (by kernel_rfl) (by kernel_rfl)) ?_; clear HF; intro a HF
        refine from_op HF (i := 1) rfl rfl ?_
        refine e_storeAll HF HM (i := 0) (cs := #[vB 0, vB 0, vI 0, vI 0, .slice none 0 0]) (ds := #[vB 0, vB 0, vI 0, vI 0, .slice none 0 0]) rfl rfl rfl rfl si_bk rfl rfl (by simp [Value.oneCell']) rfl ?_
        clear HM; intro w12_1 HM
        refine fp HF 2 2 [(4, vI 105), (3, vI 0)] ?_; clear HF; intro a HF
        refine from_done rfl ?_
        refine wp_ret ?_
        exact ret3 rfl HF (.cellS (i := 0) HF HM rfl rfl si_bk rfl) (.tmp HF rfl) (.tmp HF rfl) (breadIs_bad (readB_none hl0 hLb (by unfold blkOf; rw [if_neg (by rw [hs]; decide), if_neg (fun hh => hh hmg), if_neg (by omega), if_pos hkd])) HM.below)
       ·have HF := HF.on 40 hb40
        have hd40 := bne_eq_false_iff_eq.1 hb40
        have hkd : Lb.getD 7 0 = 1 ∨ Lb.getD 7 0 = 2 := by omega
        refine cond_false HF rfl (wp_skip ?_)
        refine cut_seq (fun aS wS => ∃ (Ab : Option Addr) (cb : Nat) (g7 : Nat), Fr aS 68 [] [(8, .bool true), (7, vP g7 0), (40, .bool false), (34, .bool false), (26, .bool false), (21, .bool false), (0, .slice (some ⟨gA, oA, none⟩) ((lenR l).1) cp), (15, .bool false), (6, vI ((lenR l).2)), (5, vI ((lenR l).1)), (4, vI 0), (3, vI 0), (2, vP g2 0)] ∧ Mem w wS [.blk g7 (b.cells Ab cb) 27, .row (.slice Ab b.evs.length cb) b.evs.length (b.evs.flatMap evL) 46 11, .blk g2 #[vB 0, vB 0, vI 0, vI 0, .slice none 0 0] 27] ∧ (b.evs.length ≤ cb)) ?_ ?_
        ·
         refine any_start (by kernel_rfl) (fun wS => Mem w wS [.blk g2 #[vB 0, vB 0, vI 0, vI 0, .slice none 0 0] 27]) [12] ?_
         replace HM := HM.drew
         have HS := HM.picks (fs' := [.blk g2 #[vB 0, vB 0, vI 0, vI 0, .slice none 0 0] 27]) [0] (by decide) rfl
         refine ap HF (fun _ => HS) [0, 3, 4] #[true, false, false, true, true, false, false, false, false, false, false, false, false, false] [(57, vI ((lenR l).1)), (56, .slice (some ⟨gA, oA, none⟩) ((lenR l).1) cp), (53, .slice (some ⟨gA, oA, none⟩) ((lenR l).1) cp)] ?_; clear HF; intro a HF
         refine ay HF HS 1 rfl rfl rfl (v := vP gA (oA + 7)) (Yl.indexAddr (ad := ⟨gA, oA, none⟩) (y := 7) (sz := 1) rfl rfl rfl (by omega) (by kernel_rfl)) ?_; clear HF; intro a HF
         have hx292 := getD_lt hlL (k := 7) (by first | omega | (simp; omega))
         refine ay HF HS 2 rfl rfl rfl (v := vB (Lb.getD 7 0)) (Yl.load1 rfl rfl (by kernel_rfl) (fun _ h => (h.old hrL).oneAt1 (k := 7) (map_at (F := B8) (k := 7) (x := (Lb.getD 7 0)) ((getD_at 0 (k := 7) (by first | omega | (simp; omega))))))) ?_; clear HF; intro a HF
         refine any_pure HF (fun _ => HS) (i := 5) rfl rfl (d := 58) rfl (by decide) (by kernel_rfl) (fun _ _ _ h => h) (v := vI (IntKind.i64.wrap (((lenR l).1 : Int) - 4))) (fun _ => Yl.pure (by kernel_rfl)) ?_; clear HF; intro a HF
         replace HF := HF.as (t := 58) (u := vI ((lenR l).1 - 4 : Nat)) rfl (i64_nat (by omega) (by omega))
         refine ay HF HS 6 rfl rfl rfl (v := .slice (if cp = 8 then some ⟨gA, oA, none⟩ else (some ⟨gA, oA, none⟩ : Option Addr).map (·.add (8 * 1))) (((lenR l).1 - 4) - 8) (cp - 8)) (Yl.slice2 ei_u8 (i := 8) (j := (lenR l).1 - 4) rfl rfl rfl rfl (by omega) (by omega)) ?_; clear HF; intro a HF
         refine any_all [7, 11] (by kernel_rfl) rfl ?_
         refine all_cons ?_ ?_
         ·refine any_op HF (i := 7) rfl rfl ?_
          refine e_call HF (vs := [vB (Lb.getD 7 0), .slice (if cp = 8 then some ⟨gA, oA, none⟩ else (some ⟨gA, oA, none⟩ : Option Addr).map (·.add (8 * 1))) (((lenR l).1 - 4) - 8) (cp - 8)]) rfl (by kernel_rfl) (by kernel_rfl) rfl (by decide) ((parse_any (Lb.getD 7 0) hkd _ (((lenR l).1 - 4) - 8) (cp - 8) ((Lb.take (Lb.length - 4)).drop 8) B _ (hL.mem HM hB) (HM.le hB) (HM.old (by rw [hnL]; exact hrL.midB8 (i := 8) (j := (lenR l).1 - 4) (by omega) (by omega) (by omega))) (by omega) (by rw [List.length_drop, List.length_take]; omega) (by omega) (drop_lt (take_lt hlL _) _)).mono (fun _ _ h => h.some hp)) ?_
          rintro _ w60 ⟨⟨Ab, cb, rfl, ho, hcb⟩, hbw⟩
          refine ⟨_, rfl, ?_⟩
          replace HM := HM.callRow hbw ho
          clear HF; intro a HF
          refine keepS (HM.picks [1] (by decide) rfl) (fun HS => ?_)
          refine ap HF (fun _ => HS) [8, 9, 10] #[true, true, true, true, true, true, true, true, true, true, true, false, false, false] [(62, .bool true), (61, .agg (b.cells Ab cb)), (52, .tuple #[.agg (b.cells Ab cb), .bool true])] ?_; clear HF; intro a HF
          refine any_all [11] (by kernel_rfl) rfl ?_
          refine all_cons ?_ all_nil
          refine any_op HF (i := 11) rfl rfl ?_
          refine e_alloc HF HM (cs := #[vB 0, vB 0, vI 0, vI 0, .slice none 0 0]) rfl (by kernel_rfl) rfl (by decide) ?_
          clear HF HM; intro a w7 g7 HF HM
          refine keepS (HM.picks [2] (by decide) rfl) (fun HS => ?_)
          refine any_all [12] (by kernel_rfl) rfl ?_
          refine all_cons ?_ all_nil
          refine any_op HF (i := 12) rfl rfl ?_
          refine e_storeAll HF HM (i := 0) (cs := #[vB 0, vB 0, vI 0, vI 0, .slice none 0 0]) (ds := (b.cells Ab cb)) rfl rfl rfl rfl si_bk rfl rfl (bk_one _ _ _) rfl ?_
          clear HM; intro w13_12 HM
          refine noS (by kernel_rfl) ?_
          refine ap HF (pastS (by kernel_rfl)) [13] #[true, true, true, true, true, true, true, true, true, true, true, true, true, true] [(8, .bool true)] ?_; clear HF; intro a HF
          refine any_done (by kernel_rfl) ?_
          exact ⟨Ab, cb, g7, HF.sub (by kernel_rfl), HM.picks [0, 1, 2] (by decide) rfl, hcb⟩
         refine all_cons ?_ all_nil
         refine any_op HF (i := 11) rfl rfl ?_
         refine e_alloc HF HM (cs := #[vB 0, vB 0, vI 0, vI 0, .slice none 0 0]) rfl (by kernel_rfl) rfl (by decide) ?_
         clear HF HM; intro a w7 g7 HF HM
         refine keepS (HM.picks [1] (by decide) rfl) (fun HS => ?_)
         refine any_all [7] (by kernel_rfl) rfl ?_
         refine all_cons ?_ all_nil
         refine any_op HF (i := 7) rfl rfl ?_
         refine e_call HF (vs := [vB (Lb.getD 7 0), .slice (if cp = 8 then some ⟨gA, oA, none⟩ else (some ⟨gA, oA, none⟩ : Option Addr).map (·.add (8 * 1))) (((lenR l).1 - 4) - 8) (cp - 8)]) rfl (by kernel_rfl) (by kernel_rfl) rfl (by decide) ((parse_any (Lb.getD 7 0) hkd _ (((lenR l).1 - 4) - 8) (cp - 8) ((Lb.take (Lb.length - 4)).drop 8) B _ (hL.mem HM hB) (HM.le hB) (HM.old (by rw [hnL]; exact hrL.midB8 (i := 8) (j := (lenR l).1 - 4) (by omega) (by omega) (by omega))) (by omega) (by rw [List.length_drop, List.length_take]; omega) (by omega) (drop_lt (take_lt hlL _) _)).mono (fun _ _ h => h.some hp)) ?_
         rintro _ w60 ⟨⟨Ab, cb, rfl, ho, hcb⟩, hbw⟩
         refine ⟨_, rfl, ?_⟩
         replace HM := HM.callRow hbw ho
         clear HF; intro a HF
         refine keepS (HM.picks [2] (by decide) rfl) (fun HS => ?_)
         refine ap HF (fun _ => HS) [8, 9, 10] #[true, true, true, true, true, true, true, true, true, true, true, true, false, false] [(62, .bool true), (61, .agg (b.cells Ab cb)), (52, .tuple #[.agg (b.cells Ab cb), .bool true])] ?_; clear HF; intro a HF
         refine any_all [12] (by kernel_rfl) rfl ?_
         refine all_cons ?_ all_nil
         refine any_op HF (i := 12) rfl rfl ?_
         refine e_storeAll HF HM (i := 1) (cs := #[vB 0, vB 0, vI 0, vI 0, .slice none 0 0]) (ds := (b.cells Ab cb)) rfl rfl rfl rfl si_bk rfl rfl (bk_one _ _ _) rfl ?_
         clear HM; intro w13_12 HM
         refine noS (by kernel_rfl) ?_
         refine ap HF (pastS (by kernel_rfl)) [13] #[true, true, true, true, true, true, true, true, true, true, true, true, true, true] [(8, .bool true)] ?_; clear HF; intro a HF
         refine any_done (by kernel_rfl) ?_
         exact ⟨Ab, cb, g7, HF.sub (by kernel_rfl), HM.picks [1, 0, 2] (by decide) rfl, hcb⟩
        clear HF HM; rintro a w13 ⟨Ab, cb, g7, HF, HM, hcb⟩
        refine wp_seq (wp_seq (from_start ?_))
        refine fp HF 2 0 [(64, .bool false), (63, .bool true)] ?_; clear HF; intro a HF
        refine from_done rfl ?_
        refine cond_false HF rfl (wp_skip (wp_seq (from_start ?_)))
        refine fy HF HM 0 rfl rfl rfl (v := .agg (b.cells Ab cb)) (Yl.loadS rfl rfl si_bk rfl (fun _ h => range_of_block (h.blk (i := 0) rfl))) ?_; clear HF; intro a HF
        refine fp HF 1 1 [(67, vI ((lenR l).1))] ?_; clear HF; intro a HF
        refine from_op HF (i := 2) rfl rfl ?_
        refine e_storeAll HF HM (i := 2) (cs := #[vB 0, vB 0, vI 0, vI 0, .slice none 0 0]) (ds := (b.cells Ab cb)) rfl rfl rfl rfl si_bk rfl rfl (bk_one _ _ _) rfl ?_
        clear HM; intro w16_2 HM
        refine fp HF 2 3 [(4, vI 0), (3, vI ((lenR l).1))] ?_; clear HF; intro a HF
        refine from_done rfl ?_
        refine wp_ret ?_
        exact ret3 rfl HF (.cellS (i := 2) HF HM rfl rfl si_bk rfl) (.tmp HF rfl) (.tmp HF rfl) (breadIs_ok (readB_some (e := 0) hl0 hLb (by unfold blkOf; rw [if_neg (by rw [hs]; decide), if_neg (fun hh => hh hmg), if_neg (by omega), if_neg (by omega), hp])) (HM.own (i := 1) rfl) hcb HM.below)
     ·have HF := HF.on 45 hb45
      have hd45 := bne_eq_false_iff_eq.1 hb45
      have hkd : Lb.getD 7 0 = 1 ∨ Lb.getD 7 0 = 2 := by omega
      refine fp HF 6 5 [(40, .bool false), (50, .bool false), (49, undef), (48, undef), (47, undef), (46, undef)] ?_; clear HF; intro a HF
      refine from_done rfl ?_
      replace HF := HF.to [(40, .bool false), (34, .bool false), (26, .bool false), (21, .bool false), (0, .slice (some ⟨gA, oA, none⟩) ((lenR l).1) cp), (15, .bool false), (6, vI ((lenR l).2)), (5, vI ((lenR l).1)), (4, vI 0), (3, vI 0), (2, vP g2 0)]
      rcases hp : parseR (Lb.getD 7 0) ((Lb.take (Lb.length - 4)).drop 8) with _ | b
      ·
       refine cond_false HF rfl (wp_skip ?_)
       refine cut_seq (fun aS wS => ∃ (cs : Array Value) (g7 : Nat), Fr aS 68 [] [(8, .bool false), (7, vP g7 0), (40, .bool false), (34, .bool false), (26, .bool false), (21, .bool false), (0, .slice (some ⟨gA, oA, none⟩) ((lenR l).1) cp), (15, .bool false), (6, vI ((lenR l).2)), (5, vI ((lenR l).1)), (4, vI 0), (3, vI 0), (2, vP g2 0)] ∧ Mem w wS [.blk g7 cs 27, .blk g2 #[vB 0, vB 0, vI 0, vI 0, .slice none 0 0] 27] ∧ (cs.size = 5) ∧ (∀ v ∈ cs.toList, v.oneCell' = true)) ?_ ?_
       ·
        refine any_start (by kernel_rfl) (fun wS => Mem w wS [.blk g2 #[vB 0, vB 0, vI 0, vI 0, .slice none 0 0] 27]) [12] ?_
        replace HM := HM.drew
        have HS := HM.picks (fs' := [.blk g2 #[vB 0, vB 0, vI 0, vI 0, .slice none 0 0] 27]) [0] (by decide) rfl
        refine ap HF (fun _ => HS) [0, 3, 4] #[true, false, false, true, true, false, false, false, false, false, false, false, false, false] [(57, vI ((lenR l).1)), (56, .slice (some ⟨gA, oA, none⟩) ((lenR l).1) cp), (53, .slice (some ⟨gA, oA, none⟩) ((lenR l).1) cp)] ?_; clear HF; intro a HF
        refine ay HF HS 1 rfl rfl rfl (v := vP gA (oA + 7)) (Yl.indexAddr (ad := ⟨gA, oA, none⟩) (y := 7) (sz := 1) rfl rfl rfl (by omega) (by kernel_rfl)) ?_; clear HF; intro a HF
        have hx382 := getD_lt hlL (k := 7) (by first | omega | (simp; omega))
        refine ay HF HS 2 rfl rfl rfl (v := vB (Lb.getD 7 0)) (Yl.load1 rfl rfl (by kernel_rfl) (fun _ h => (h.old hrL).oneAt1 (k := 7) (map_at (F := B8) (k := 7) (x := (Lb.getD 7 0)) ((getD_at 0 (k := 7) (by first | omega | (simp; omega))))))) ?_; clear HF; intro a HF
        refine any_pure HF (fun _ => HS) (i := 5) rfl rfl (d := 58) rfl (by decide) (by kernel_rfl) (fun _ _ _ h => h) (v := vI (IntKind.i64.wrap (((lenR l).1 : Int) - 4))) (fun _ => Yl.pure (by kernel_rfl)) ?_; clear HF; intro a HF
        replace HF := HF.as (t := 58) (u := vI ((lenR l).1 - 4 : Nat)) rfl (i64_nat (by omega) (by omega))
        refine ay HF HS 6 rfl rfl rfl (v := .slice (if cp = 8 then some ⟨gA, oA, none⟩ else (some ⟨gA, oA, none⟩ : Option Addr).map (·.add (8 * 1))) (((lenR l).1 - 4) - 8) (cp - 8)) (Yl.slice2 ei_u8 (i := 8) (j := (lenR l).1 - 4) rfl rfl rfl rfl (by omega) (by omega)) ?_; clear HF; intro a HF
        refine any_all [7, 11] (by kernel_rfl) rfl ?_
        refine all_cons ?_ ?_
        ·refine any_op HF (i := 7) rfl rfl ?_
         refine e_call HF (vs := [vB (Lb.getD 7 0), .slice (if cp = 8 then some ⟨gA, oA, none⟩ else (some ⟨gA, oA, none⟩ : Option Addr).map (·.add (8 * 1))) (((lenR l).1 - 4) - 8) (cp - 8)]) rfl (by kernel_rfl) (by kernel_rfl) rfl (by decide) ((parse_any (Lb.getD 7 0) hkd _ (((lenR l).1 - 4) - 8) (cp - 8) ((Lb.take (Lb.length - 4)).drop 8) B _ (hL.mem HM hB) (HM.le hB) (HM.old (by rw [hnL]; exact hrL.midB8 (i := 8) (j := (lenR l).1 - 4) (by omega) (by omega) (by omega))) (by omega) (by rw [List.length_drop, List.length_take]; omega) (by omega) (drop_lt (take_lt hlL _) _)).mono (fun _ _ h => h.none hp)) ?_
         rintro _ w60 ⟨⟨cs, rfl, hs5, h1⟩, hbw⟩
         refine ⟨_, rfl, ?_⟩
         replace HM := HM.call hbw
         clear HF; intro a HF
         refine keepS (HM.picks [0] (by decide) rfl) (fun HS => ?_)
         refine ap HF (fun _ => HS) [8, 9, 10] #[true, true, true, true, true, true, true, true, true, true, true, false, false, false] [(62, .bool false), (61, .agg cs), (52, .tuple #[.agg cs, .bool false])] ?_; clear HF; intro a HF
         refine any_all [11] (by kernel_rfl) rfl ?_
         refine all_cons ?_ all_nil
         refine any_op HF (i := 11) rfl rfl ?_
         refine e_alloc HF HM (cs := #[vB 0, vB 0, vI 0, vI 0, .slice none 0 0]) rfl (by kernel_rfl) rfl (by decide) ?_
         clear HF HM; intro a w7 g7 HF HM
         refine keepS (HM.picks [1] (by decide) rfl) (fun HS => ?_)
         refine any_all [12] (by kernel_rfl) rfl ?_
         refine all_cons ?_ all_nil
         refine any_op HF (i := 12) rfl rfl ?_
         refine e_storeAll HF HM (i := 0) (cs := #[vB 0, vB 0, vI 0, vI 0, .slice none 0 0]) (ds := cs) rfl rfl rfl rfl si_bk rfl hs5 (h1) rfl ?_
         clear HM; intro w13_12 HM
         refine noS (by kernel_rfl) ?_
         refine ap HF (pastS (by kernel_rfl)) [13] #[true, true, true, true, true, true, true, true, true, true, true, true, true, true] [(8, .bool false)] ?_; clear HF; intro a HF
         refine any_done (by kernel_rfl) ?_
         exact ⟨cs, g7, HF.sub (by kernel_rfl), HM.picks [0, 1] (by decide) rfl, hs5, h1⟩
        refine all_cons ?_ all_nil
        refine any_op HF (i := 11) rfl rfl ?_
        refine e_alloc HF HM (cs := #[vB 0, vB 0, vI 0, vI 0, .slice none 0 0]) rfl (by kernel_rfl) rfl (by decide) ?_
        clear HF HM; intro a w7 g7 HF HM
        refine keepS (HM.picks [1] (by decide) rfl) (fun HS => ?_)
        refine any_all [7] (by kernel_rfl) rfl ?_
        refine all_cons ?_ all_nil
        refine any_op HF (i := 7) rfl rfl ?_
        refine e_call HF (vs := [vB (Lb.getD 7 0), .slice (if cp = 8 then some ⟨gA, oA, none⟩ else (some ⟨gA, oA, none⟩ : Option Addr).map (·.add (8 * 1))) (((lenR l).1 - 4) - 8) (cp - 8)]) rfl (by kernel_rfl) (by kernel_rfl) rfl (by decide) ((parse_any (Lb.getD 7 0) hkd _ (((lenR l).1 - 4) - 8) (cp - 8) ((Lb.take (Lb.length - 4)).drop 8) B _ (hL.mem HM hB) (HM.le hB) (HM.old (by rw [hnL]; exact hrL.midB8 (i := 8) (j := (lenR l).1 - 4) (by omega) (by omega) (by omega))) (by omega) (by rw [List.length_drop, List.length_take]; omega) (by omega) (drop_lt (take_lt hlL _) _)).mono (fun _ _ h => h.none hp)) ?_
        rintro _ w60 ⟨⟨cs, rfl, hs5, h1⟩, hbw⟩
        refine ⟨_, rfl, ?_⟩
        replace HM := HM.call hbw
        clear HF; intro a HF
        refine keepS (HM.picks [1] (by decide) rfl) (fun HS => ?_)
        refine ap HF (fun _ => HS) [8, 9, 10] #[true, true, true, true, true, true, true, true, true, true, true, true, false, false] [(62, .bool false), (61, .agg cs), (52, .tuple #[.agg cs, .bool false])] ?_; clear HF; intro a HF
        refine any_all [12] (by kernel_rfl) rfl ?_
        refine all_cons ?_ all_nil
        refine any_op HF (i := 12) rfl rfl ?_
        refine e_storeAll HF HM (i := 0) (cs := #[vB 0, vB 0, vI 0, vI 0, .slice none 0 0]) (ds := cs) rfl rfl rfl rfl si_bk rfl hs5 (h1) rfl ?_
        clear HM; intro w13_12 HM
        refine noS (by kernel_rfl) ?_
        refine ap HF (pastS (by kernel_rfl)) [13] #[true, true, true, true, true, true, true, true, true, true, true, true, true, true] [(8, .bool false)] ?_; clear HF; intro a HF
        refine any_done (by kernel_rfl) ?_
        exact ⟨cs, g7, HF.sub (by kernel_rfl), HM.picks [0, 1] (by decide) rfl, hs5, h1⟩
       clear HF HM; rintro a w13 ⟨cs, g7, HF, HM, hs5, h1⟩
       refine wp_seq (wp_seq (from_start ?_))
       refine fp HF 2 0 [(64, .bool true), (63, .bool false)] ?_; clear HF; intro a HF
       refine from_done rfl ?_
       refine cond_true HF rfl (wp_seq (from_start ?_))
       refine fy HF HM 0 rfl rfl rfl (v := .agg #[vB 0, vB 0, vI 0, vI 0, .slice none 0 0]) (Yl.build (vs := []) rfl (by kernel_rfl) (by kernel_rfl)) ?_; clear HF; intro a HF
       refine from_op HF (i := 1) rfl rfl ?_
       refine e_storeAll HF HM (i := 1) (cs := #[vB 0, vB 0, vI 0, vI 0, .slice none 0 0]) (ds := #[vB 0, vB 0, vI 0, vI 0, .slice none 0 0]) rfl rfl rfl rfl si_bk rfl rfl (by simp [Value.oneCell']) rfl ?_
       clear HM; intro w15_1 HM
       refine fp HF 2 2 [(4, vI 106), (3, vI 0)] ?_; clear HF; intro a HF
       refine from_done rfl ?_
       refine wp_ret ?_
       exact ret3 rfl HF (.cellS (i := 1) HF HM rfl rfl si_bk rfl) (.tmp HF rfl) (.tmp HF rfl) (breadIs_bad (readB_none hl0 hLb (by unfold blkOf; rw [if_neg (by rw [hs]; decide), if_neg (fun hh => hh hmg), if_neg (by omega), if_neg (by omega), hp])) HM.below)
      ·
       refine cond_false HF rfl (wp_skip ?_)
       refine cut_seq (fun aS wS => ∃ (Ab : Option Addr) (cb : Nat) (g7 : Nat), Fr aS 68 [] [(8, .bool true), (7, vP g7 0), (40, .bool false), (34, .bool false), (26, .bool false), (21, .bool false), (0, .slice (some ⟨gA, oA, none⟩) ((lenR l).1) cp), (15, .bool false), (6, vI ((lenR l).2)), (5, vI ((lenR l).1)), (4, vI 0), (3, vI 0), (2, vP g2 0)] ∧ Mem w wS [.blk g7 (b.cells Ab cb) 27, .row (.slice Ab b.evs.length cb) b.evs.length (b.evs.flatMap evL) 46 11, .blk g2 #[vB 0, vB 0, vI 0, vI 0, .slice none 0 0] 27] ∧ (b.evs.length ≤ cb)) ?_ ?_
       ·
        refine any_start (by kernel_rfl) (fun wS => Mem w wS [.blk g2 #[vB 0, vB 0, vI 0, vI 0, .slice none 0 0] 27]) [12] ?_
        replace HM := HM.drew
        have HS := HM.picks (fs' := [.blk g2 #[vB 0, vB 0, vI 0, vI 0, .slice none 0 0] 27]) [0] (by decide) rfl
        refine ap HF (fun _ => HS) [0, 3, 4] #[true, false, false, true, true, false, false, false, false, false, false, false, false, false] [(57, vI ((lenR l).1)), (56, .slice (some ⟨gA, oA, none⟩) ((lenR l).1) cp), (53, .slice (some ⟨gA, oA, none⟩) ((lenR l).1) cp)] ?_; clear HF; intro a HF
        refine ay HF HS 1 rfl rfl rfl (v := vP gA (oA + 7)) (Yl.indexAddr (ad := ⟨gA, oA, none⟩) (y := 7) (sz := 1) rfl rfl rfl (by omega) (by kernel_rfl)) ?_; clear HF; intro a HF
        have hx463 := getD_lt hlL (k := 7) (by first | omega | (simp; omega))
        refine ay HF HS 2 rfl rfl rfl (v := vB (Lb.getD 7 0)) (Yl.load1 rfl rfl (by kernel_rfl) (fun _ h => (h.old hrL).oneAt1 (k := 7) (map_at (F := B8) (k := 7) (x := (Lb.getD 7 0)) ((getD_at 0 (k := 7) (by first | omega | (simp; omega))))))) ?_; clear HF; intro a HF
        refine any_pure HF (fun _ => HS) (i := 5) rfl rfl (d := 58) rfl (by decide) (by kernel_rfl) (fun _ _ _ h => h) (v := vI (IntKind.i64.wrap (((lenR l).1 : Int) - 4))) (fun _ => Yl.pure (by kernel_rfl)) ?_; clear HF; intro a HF
        replace HF := HF.as (t := 58) (u := vI ((lenR l).1 - 4 : Nat)) rfl (i64_nat (by omega) (by omega))
        refine ay HF HS 6 rfl rfl rfl (v := .slice (if cp = 8 then some ⟨gA, oA, none⟩ else (some ⟨gA, oA, none⟩ : Option Addr).map (·.add (8 * 1))) (((lenR l).1 - 4) - 8) (cp - 8)) (Yl.slice2 ei_u8 (i := 8) (j := (lenR l).1 - 4) rfl rfl rfl rfl (by omega) (by omega)) ?_; clear HF; intro a HF
        refine any_all [7, 11] (by kernel_rfl) rfl ?_
        refine all_cons ?_ ?_
        ·refine any_op HF (i := 7) rfl rfl ?_
         refine e_call HF (vs := [vB (Lb.getD 7 0), .slice (if cp = 8 then some ⟨gA, oA, none⟩ else (some ⟨gA, oA, none⟩ : Option Addr).map (·.add (8 * 1))) (((lenR l).1 - 4) - 8) (cp - 8)]) rfl (by kernel_rfl) (by kernel_rfl) rfl (by decide) ((parse_any (Lb.getD 7 0) hkd _ (((lenR l).1 - 4) - 8) (cp - 8) ((Lb.take (Lb.length - 4)).drop 8) B _ (hL.mem HM hB) (HM.le hB) (HM.old (by rw [hnL]; exact hrL.midB8 (i := 8) (j := (lenR l).1 - 4) (by omega) (by omega) (by omega))) (by omega) (by rw [List.length_drop, List.length_take]; omega) (by omega) (drop_lt (take_lt hlL _) _)).mono (fun _ _ h => h.some hp)) ?_
         rintro _ w60 ⟨⟨Ab, cb, rfl, ho, hcb⟩, hbw⟩
         refine ⟨_, rfl, ?_⟩
         replace HM := HM.callRow hbw ho
         clear HF; intro a HF
         refine keepS (HM.picks [1] (by decide) rfl) (fun HS => ?_)
         refine ap HF (fun _ => HS) [8, 9, 10] #[true, true, true, true, true, true, true, true, true, true, true, false, false, false] [(62, .bool true), (61, .agg (b.cells Ab cb)), (52, .tuple #[.agg (b.cells Ab cb), .bool true])] ?_; clear HF; intro a HF
         refine any_all [11] (by kernel_rfl) rfl ?_
         refine all_cons ?_ all_nil
         refine any_op HF (i := 11) rfl rfl ?_
         refine e_alloc HF HM (cs := #[vB 0, vB 0, vI 0, vI 0, .slice none 0 0]) rfl (by kernel_rfl) rfl (by decide) ?_
         clear HF HM; intro a w7 g7 HF HM
         refine keepS (HM.picks [2] (by decide) rfl) (fun HS => ?_)
         refine any_all [12] (by kernel_rfl) rfl ?_
         refine all_cons ?_ all_nil
         refine any_op HF (i := 12) rfl rfl ?_
         refine e_storeAll HF HM (i := 0) (cs := #[vB 0, vB 0, vI 0, vI 0, .slice none 0 0]) (ds := (b.cells Ab cb)) rfl rfl rfl rfl si_bk rfl rfl (bk_one _ _ _) rfl ?_
         clear HM; intro w13_12 HM
         refine noS (by kernel_rfl) ?_
         refine ap HF (pastS (by kernel_rfl)) [13] #[true, true, true, true, true, true, true, true, true, true, true, true, true, true] [(8, .bool true)] ?_; clear HF; intro a HF
         refine any_done (by kernel_rfl) ?_
         exact ⟨Ab, cb, g7, HF.sub (by kernel_rfl), HM.picks [0, 1, 2] (by decide) rfl, hcb⟩
        refine all_cons ?_ all_nil
        refine any_op HF (i := 11) rfl rfl ?_
        refine e_alloc HF HM (cs := #[vB 0, vB 0, vI 0, vI 0, .slice none 0 0]) rfl (by kernel_rfl) rfl (by decide) ?_
        clear HF HM; intro a w7 g7 HF HM
        refine keepS (HM.picks [1] (by decide) rfl) (fun HS => ?_)
        refine any_all [7] (by kernel_rfl) rfl ?_
        refine all_cons ?_ all_nil
        refine any_op HF (i := 7) rfl rfl ?_
        refine e_call HF (vs := [vB (Lb.getD 7 0), .slice (if cp = 8 then some ⟨gA, oA, none⟩ else (some ⟨gA, oA, none⟩ : Option Addr).map (·.add (8 * 1))) (((lenR l).1 - 4) - 8) (cp - 8)]) rfl (by kernel_rfl) (by kernel_rfl) rfl (by decide) ((parse_any (Lb.getD 7 0) hkd _ (((lenR l).1 - 4) - 8) (cp - 8) ((Lb.take (Lb.length - 4)).drop 8) B _ (hL.mem HM hB) (HM.le hB) (HM.old (by rw [hnL]; exact hrL.midB8 (i := 8) (j := (lenR l).1 - 4) (by omega) (by omega) (by omega))) (by omega) (by rw [List.length_drop, List.length_take]; omega) (by omega) (drop_lt (take_lt hlL _) _)).mono (fun _ _ h => h.some hp)) ?_
        rintro _ w60 ⟨⟨Ab, cb, rfl, ho, hcb⟩, hbw⟩
        refine ⟨_, rfl, ?_⟩
        replace HM := HM.callRow hbw ho
        clear HF; intro a HF
        refine keepS (HM.picks [2] (by decide) rfl) (fun HS => ?_)
        refine ap HF (fun _ => HS) [8, 9, 10] #[true, true, true, true, true, true, true, true, true, true, true, true, false, false] [(62, .bool true), (61, .agg (b.cells Ab cb)), (52, .tuple #[.agg (b.cells Ab cb), .bool true])] ?_; clear HF; intro a HF
        refine any_all [12] (by kernel_rfl) rfl ?_
        refine all_cons ?_ all_nil
        refine any_op HF (i := 12) rfl rfl ?_
        refine e_storeAll HF HM (i := 1) (cs := #[vB 0, vB 0, vI 0, vI 0, .slice none 0 0]) (ds := (b.cells Ab cb)) rfl rfl rfl rfl si_bk rfl rfl (bk_one _ _ _) rfl ?_
        clear HM; intro w13_12 HM
        refine noS (by kernel_rfl) ?_
        refine ap HF (pastS (by kernel_rfl)) [13] #[true, true, true, true, true, true, true, true, true, true, true, true, true, true] [(8, .bool true)] ?_; clear HF; intro a HF
        refine any_done (by kernel_rfl) ?_
        exact ⟨Ab, cb, g7, HF.sub (by kernel_rfl), HM.picks [1, 0, 2] (by decide) rfl, hcb⟩
       clear HF HM; rintro a w13 ⟨Ab, cb, g7, HF, HM, hcb⟩
       refine wp_seq (wp_seq (from_start ?_))
       refine fp HF 2 0 [(64, .bool false), (63, .bool true)] ?_; clear HF; intro a HF
       refine from_done rfl ?_
       refine cond_false HF rfl (wp_skip (wp_seq (from_start ?_)))
       refine fy HF HM 0 rfl rfl rfl (v := .agg (b.cells Ab cb)) (Yl.loadS rfl rfl si_bk rfl (fun _ h => range_of_block (h.blk (i := 0) rfl))) ?_; clear HF; intro a HF
       refine fp HF 1 1 [(67, vI ((lenR l).1))] ?_; clear HF; intro a HF
       refine from_op HF (i := 2) rfl rfl ?_
       refine e_storeAll HF HM (i := 2) (cs := #[vB 0, vB 0, vI 0, vI 0, .slice none 0 0]) (ds := (b.cells Ab cb)) rfl rfl rfl rfl si_bk rfl rfl (bk_one _ _ _) rfl ?_
       clear HM; intro w16_2 HM
       refine fp HF 2 3 [(4, vI 0), (3, vI ((lenR l).1))] ?_; clear HF; intro a HF
       refine from_done rfl ?_
       refine wp_ret ?_
       exact ret3 rfl HF (.cellS (i := 2) HF HM rfl rfl si_bk rfl) (.tmp HF rfl) (.tmp HF rfl) (breadIs_ok (readB_some (e := 0) hl0 hLb (by unfold blkOf; rw [if_neg (by rw [hs]; decide), if_neg (fun hh => hh hmg), if_neg (by omega), if_neg (by omega), hp])) (HM.own (i := 1) rfl) hcb HM.below)
theorem same_false {b d : Bk} (h : (b.kind : Int) ≠ d.kind ∨ (b.cpu : Int) ≠ d.cpu ∨ b.lost ≠ d.lost ∨ b.next ≠ d.next) : decide (b = d) = false := by
  rw [decide_eq_false]
  rintro rfl
  omega
theorem same_evs {b d : Bk} (h1 : b.kind = d.kind) (h2 : b.cpu = d.cpu) (h3 : b.lost = d.lost) (h4 : b.next = d.next) : decide (b.evs = d.evs) = decide (b = d) := by
  rw [Bool.eq_iff_iff, decide_eq_true_eq, decide_eq_true_eq]
  cases b; cases d
  simp only at h1 h2 h3 h4
  subst h1; subst h2; subst h3; subst h4
  simp
set_option maxRecDepth 100000 in
set_option maxHeartbeats 4000000 in
theorem same_any (b d : Bk) (A A2 : Option Addr) (c c2 : Nat) (w : World) (hr : Rd w w.heap.size 11 A b.evs.length (b.evs.flatMap evL)) (hr2 : Rd w w.heap.size 11 A2 d.evs.length (d.evs.flatMap evL)) (hn : b.evs.length ≤ 1000000) :
    Calls Tryd.prog 24 #[.agg (b.cells A c), .agg (d.cells A2 c2)] w (Is w (.bool (decide (b = d)))) := by
 refine calls_enter (vs := [.agg (b.cells A c), .agg (d.cells A2 c2)]) Tryd.func24 rfl rfl (by kernel_rfl) (σ0 := [(0, .agg (b.cells A c)), (1, .agg (d.cells A2 c2))]) rfl ?_
 intro a HF
 have HM := Mem.start w
 refine wp_seq (from_start ?_)
 refine from_op HF (i := 0) rfl rfl ?_
 refine e_box HF HM (cs := (b.cells A c)) rfl rfl rfl rfl (by decide) ?_
 clear HF HM; intro a w2 g2 HF HM
 refine from_op HF (i := 1) rfl rfl ?_
 refine e_box HF HM (cs := (d.cells A2 c2)) rfl rfl rfl rfl (by decide) ?_
 clear HF HM; intro a w3 g3 HF HM
 refine fp HF 1 2 [(4, .bool false)] ?_; clear HF; intro a HF
 refine from_done rfl ?_
 refine wp_seq (from_start ?_)
 refine fp HF 1 0 [(5, vP g2 0)] ?_; clear HF; intro a HF
 refine fy HF HM 1 rfl rfl rfl (v := vB b.kind) (Yl.load1 rfl rfl (by kernel_rfl) (fun _ h => h.cell (i := 1) rfl (rfl))) ?_; clear HF; intro a HF
 refine fp HF 1 2 [(7, vP g3 0)] ?_; clear HF; intro a HF
 refine fy HF HM 3 rfl rfl rfl (v := vB d.kind) (Yl.load1 rfl rfl (by kernel_rfl) (fun _ h => h.cell (i := 0) rfl (rfl))) ?_; clear HF; intro a HF
 refine fp HF 2 4 [(10, .bool ((b.kind : Int) == (d.kind : Int))), (9, .bool ((b.kind : Int) == (d.kind : Int)))] ?_; clear HF; intro a HF
 rcases Bool.eq_false_or_eq_true ((b.kind : Int) == (d.kind : Int)) with hb10 | hb10
 ·have HF := HF.on 10 hb10
  have hd10 := eq_of_beq hb10
  refine fp HF 1 6 [(11, vP g2 1)] ?_; clear HF; intro a HF
  refine fy HF HM 7 rfl rfl rfl (v := vB b.cpu) (Yl.load1 rfl rfl (by kernel_rfl) (fun _ h => h.cell (i := 1) rfl (rfl))) ?_; clear HF; intro a HF
  refine fp HF 1 8 [(13, vP g3 1)] ?_; clear HF; intro a HF
  refine fy HF HM 9 rfl rfl rfl (v := vB d.cpu) (Yl.load1 rfl rfl (by kernel_rfl) (fun _ h => h.cell (i := 0) rfl (rfl))) ?_; clear HF; intro a HF
  refine fp HF 3 10 [(17, .bool ((b.cpu : Int) == (d.cpu : Int))), (16, .bool ((b.cpu : Int) == (d.cpu : Int))), (15, .bool ((b.cpu : Int) == (d.cpu : Int)))] ?_; clear HF; intro a HF
  rcases Bool.eq_false_or_eq_true ((b.cpu : Int) == (d.cpu : Int)) with hb17 | hb17
  ·have HF := HF.on 17 hb17
   have hd17 := eq_of_beq hb17
   refine fp HF 1 13 [(18, vP g2 2)] ?_; clear HF; intro a HF
   refine fy HF HM 14 rfl rfl rfl (v := vI b.lost) (Yl.load1 rfl rfl (by kernel_rfl) (fun _ h => h.cell (i := 1) rfl (rfl))) ?_; clear HF; intro a HF
   refine fp HF 1 15 [(20, vP g3 2)] ?_; clear HF; intro a HF
   refine fy HF HM 16 rfl rfl rfl (v := vI d.lost) (Yl.load1 rfl rfl (by kernel_rfl) (fun _ h => h.cell (i := 0) rfl (rfl))) ?_; clear HF; intro a HF
   refine fp HF 3 17 [(24, .bool ((b.lost : Int) == (d.lost : Int))), (23, .bool ((b.lost : Int) == (d.lost : Int))), (22, .bool ((b.lost : Int) == (d.lost : Int)))] ?_; clear HF; intro a HF
   rcases Bool.eq_false_or_eq_true ((b.lost : Int) == (d.lost : Int)) with hb24 | hb24
   ·have HF := HF.on 24 hb24
    have hd24 := eq_of_beq hb24
    refine fp HF 1 20 [(25, vP g2 3)] ?_; clear HF; intro a HF
    refine fy HF HM 21 rfl rfl rfl (v := vI b.next) (Yl.load1 rfl rfl (by kernel_rfl) (fun _ h => h.cell (i := 1) rfl (rfl))) ?_; clear HF; intro a HF
    refine fp HF 1 22 [(27, vP g3 3)] ?_; clear HF; intro a HF
    refine fy HF HM 23 rfl rfl rfl (v := vI d.next) (Yl.load1 rfl rfl (by kernel_rfl) (fun _ h => h.cell (i := 0) rfl (rfl))) ?_; clear HF; intro a HF
    refine fp HF 3 24 [(31, .bool ((b.next : Int) == (d.next : Int))), (30, .bool ((b.next : Int) == (d.next : Int))), (29, .bool ((b.next : Int) == (d.next : Int)))] ?_; clear HF; intro a HF
    rcases Bool.eq_false_or_eq_true ((b.next : Int) == (d.next : Int)) with hb31 | hb31
    ·have HF := HF.on 31 hb31
     have hd31 := eq_of_beq hb31
     refine fp HF 1 27 [(32, vP g2 4)] ?_; clear HF; intro a HF
     refine fy HF HM 28 rfl rfl rfl (v := .slice A b.evs.length c) (Yl.load1 rfl rfl (by kernel_rfl) (fun _ h => h.cell (i := 1) rfl (rfl))) ?_; clear HF; intro a HF
     refine fp HF 1 29 [(34, vP g3 4)] ?_; clear HF; intro a HF
     refine fy HF HM 30 rfl rfl rfl (v := .slice A2 d.evs.length c2) (Yl.load1 rfl rfl (by kernel_rfl) (fun _ h => h.cell (i := 0) rfl (rfl))) ?_; clear HF; intro a HF
     refine from_op HF (i := 31) rfl rfl ?_
     refine e_call HF (vs := [.slice A b.evs.length c, .slice A2 d.evs.length c2]) rfl (by kernel_rfl) (by kernel_rfl) rfl (by decide) (equal_any _ _ _ _ _ _ b.evs d.evs _ (HM.old hr) (HM.old hr2) rfl rfl (by omega)) ?_
     rintro _ w36 ⟨rfl, hbw⟩
     refine ⟨_, rfl, ?_⟩
     replace HM := HM.call hbw
     clear HF; intro a HF
     refine fp HF 2 32 [(4, .bool (decide (b.evs = d.evs))), (37, .bool (decide (b.evs = d.evs)))] ?_; clear HF; intro a HF
     refine from_done rfl ?_
     replace HF := HF.to [(4, .bool (decide (b.evs = d.evs)))]
     replace HM := HM.picks (fs' := []) [] (by decide) rfl
     refine wp_ret ?_
     exact ret1 rfl HF (.tmp HF rfl) (⟨by rw [same_evs (by omega) (by omega) (by omega) (by omega)], HM.below⟩)
    ·have HF := HF.on 31 hb31
     have hd31 := ne_of_beq_false hb31
     refine fp HF 7 27 [(4, .bool false), (37, .bool false), (36, undef), (35, undef), (34, undef), (33, undef), (32, undef)] ?_; clear HF; intro a HF
     refine from_done rfl ?_
     replace HF := HF.to [(4, .bool false)]
     replace HM := HM.picks (fs' := []) [] (by decide) rfl
     refine wp_ret ?_
     exact ret1 rfl HF (.tmp HF rfl) (⟨by rw [same_false (by omega)], HM.below⟩)
   ·have HF := HF.on 24 hb24
    have hd24 := ne_of_beq_false hb24
    refine fp HF 14 20 [(4, .bool false), (37, .bool false), (36, undef), (35, undef), (34, undef), (33, undef), (32, undef), (31, .bool false), (30, .bool false), (29, undef), (28, undef), (27, undef), (26, undef), (25, undef)] ?_; clear HF; intro a HF
    refine from_done rfl ?_
    replace HF := HF.to [(4, .bool false)]
    replace HM := HM.picks (fs' := []) [] (by decide) rfl
    refine wp_ret ?_
    exact ret1 rfl HF (.tmp HF rfl) (⟨by rw [same_false (by omega)], HM.below⟩)
  ·have HF := HF.on 17 hb17
   have hd17 := ne_of_beq_false hb17
   refine fp HF 21 13 [(4, .bool false), (37, .bool false), (36, undef), (35, undef), (34, undef), (33, undef), (32, undef), (31, .bool false), (30, .bool false), (29, undef), (28, undef), (27, undef), (26, undef), (25, undef), (24, .bool false), (23, .bool false), (22, undef), (21, undef), (20, undef), (19, undef), (18, undef)] ?_; clear HF; intro a HF
   refine from_done rfl ?_
   replace HF := HF.to [(4, .bool false)]
   replace HM := HM.picks (fs' := []) [] (by decide) rfl
   refine wp_ret ?_
   exact ret1 rfl HF (.tmp HF rfl) (⟨by rw [same_false (by omega)], HM.below⟩)
 ·have HF := HF.on 10 hb10
  have hd10 := ne_of_beq_false hb10
  refine fp HF 28 6 [(4, .bool false), (37, .bool false), (36, undef), (35, undef), (34, undef), (33, undef), (32, undef), (31, .bool false), (30, .bool false), (29, undef), (28, undef), (27, undef), (26, undef), (25, undef), (24, .bool false), (23, .bool false), (22, undef), (21, undef), (20, undef), (19, undef), (18, undef), (17, .bool false), (16, .bool false), (15, undef), (14, undef), (13, undef), (12, undef), (11, undef)] ?_; clear HF; intro a HF
  refine from_done rfl ?_
  replace HF := HF.to [(4, .bool false)]
  replace HM := HM.picks (fs' := []) [] (by decide) rfl
  refine wp_ret ?_
  exact ret1 rfl HF (.tmp HF rfl) (⟨by rw [same_false (by omega)], HM.below⟩)
end Go.Proofs.YtnakabnmjnfpcaaDoor

namespace Go.Proofs.YtnakabnmjnfpcaaDoor
open Go.RowKit
theorem BytesIs.as {w w' : World} {er er' : Nat} {R R' : List Nat} {r : Ending} (h : BytesIs w er R r w') (h1 : er = er') (h2 : R = R') : BytesIs w er' R' r w' := by subst h1; subst h2; exact h
theorem bwrite_is (b : Bk) (hok : b.Ok) (A : Option Addr) (c B : Nat) (w : World) (hL : LaidX B w) (hB : B ≤ w.heap.size) (hr : Rd w w.heap.size 11 A b.evs.length (b.evs.flatMap evL)) (hn : b.evs.length ≤ 1000000) {er : Nat} {R : List Nat} (h1 : b.err = er) (h2 : b.out = R) : Calls Tryd.prog 16 #[.agg (b.cells A c)] w (BytesIs w er R) :=
  (bwrite_any b hok A c B w hL hB hr hn).mono fun _ _ h => h.as h1 h2
theorem bsize_is (b : Bk) (hok : b.Ok) (A : Option Addr) (c B : Nat) (w : World) (hL : LaidX B w) (hB : B ≤ w.heap.size) (hr : Rd w w.heap.size 11 A b.evs.length (b.evs.flatMap evL)) (hn : b.evs.length ≤ 1000000) {er n : Nat} (h1 : b.err = er) (h2 : b.out.length = n) : Calls Tryd.prog 18 #[.agg (b.cells A c)] w (Is w (.tuple #[.int .i64 (n : Int), .int .i64 (er : Int)])) :=
  (bsize_any b hok A c B w hL hB hr hn).mono fun _ _ h => by rw [h1, h2] at h; exact h
theorem bcheck_is (b : Bk) (hok : b.Ok) (A : Option Addr) (c B : Nat) (w : World) (hL : LaidX B w) (hB : B ≤ w.heap.size) (hr : Rd w w.heap.size 11 A b.evs.length (b.evs.flatMap evL)) (hn : b.evs.length ≤ 1000000) {er : Nat} (h1 : b.err = er) : Calls Tryd.prog 19 #[.agg (b.cells A c)] w (Is w (.int .i64 (er : Int))) :=
  (bcheck_any b hok A c B w hL hB hr hn).mono fun _ _ h => by rw [h1] at h; exact h
theorem bread_is (A : Option Addr) (n cp : Nat) (l : List Nat) (B : Nat) (w : World) (hL : LaidX B w) (hB : B ≤ w.heap.size) (hr : Rd w w.heap.size 1 A n (l.map B8)) (hc : n ≤ cp) (hln : l.length = n) (hn : n ≤ 9223372036854775807) (hl : ∀ b ∈ l, b < 256) {b : Bk} {m er : Nat} (h : readB l = (b, m, er)) :
    Calls Tryd.prog 11 #[.slice A n cp] w fun r w' => (∃ A c, r = .returned (.tuple #[.agg (b.cells A c), .int .i64 (m : Int), .int .i64 (er : Int)]) ∧ w'.ownsRow w.heap.size 46 11 (.slice A b.evs.length c) b.evs.length (b.evs.flatMap evL) ∧ b.evs.length ≤ c) ∧ Below w.heap.size w w' :=
  (bread_any A n cp l B w hL hB hr hc hln hn hl).mono fun _ _ hh => by rw [h] at hh; exact hh
theorem length_is (A : Option Addr) (n cp : Nat) (l : List Nat) (w : World) (hr : Rd w w.heap.size 1 A n (l.map B8)) (hln : l.length = n) (hn : n ≤ 9223372036854775807) (hl : ∀ b ∈ l, b < 256) {m er : Nat} (h : lenR l = (m, er)) :
    Calls Tryd.prog 9 #[.slice A n cp] w (Is w (.tuple #[.int .i64 (m : Int), .int .i64 (er : Int)])) :=
  (length_any A n cp l w hr hln hn hl).mono fun _ _ hh => by rw [h] at hh; exact hh
theorem str_lit {l : List Nat} {d : Array UInt8} (h : (l.map fun b => UInt8.ofNat b).toArray = d) : ((bstr l).toList == (ByteArray.mk d).toList) = true := by subst h; unfold bstr; simp
def tickE : Ev := { Ev.zero with seq := 5, time := 340, cpu := 2, kind := 5, ticks := 40, got := 7 }
def awX : List Nat := [13, 0, 0, 0, 113, 116, 1, 2, 7, 91, 144, 57, 154]
def awY : List Nat := [23, 0, 0, 0, 113, 116, 1, 1, 2, 0, 1, 5, 212, 2, 5, 0, 0, 40, 7, 28, 64, 73, 151]
def awZ : List Nat := [13, 0, 0, 0, 113, 116, 1, 2, 6, 91, 144, 57, 154]
theorem numOk (k c : Nat) (lo nx : Int) (hk : k < 256) (hc : c < 256) (hl : I64 lo) (hn : I64 nx) : Bk.Ok ⟨k, c, lo, nx, []⟩ := ⟨hk, hc, hl, hn, by intro e he; cases he⟩
theorem tickOk : tickE.Ok := ⟨⟨by decide, by decide⟩, ⟨by decide, by decide⟩, by decide, by decide, ⟨by decide, by decide⟩, ⟨by decide, by decide⟩, ⟨by decide, by decide⟩, ⟨by decide, by decide⟩, ⟨by decide, by decide⟩, by decide, ⟨by decide, by decide⟩⟩
theorem oneOk {k c : Nat} {lo nx : Int} {e : Ev} (hk : k < 256) (hc : c < 256) (hl : I64 lo) (hn : I64 nx) (he : e.Ok) : Bk.Ok ⟨k, c, lo, nx, [e]⟩ := ⟨hk, hc, hl, hn, by intro x hx; simp at hx; subst hx; exact he⟩
theorem ba1 : Bk.err ⟨2, 0, 0, 7, []⟩ = 0 ∧ Bk.out ⟨2, 0, 0, 7, []⟩ = awX := by decide +kernel
theorem ba2 : Bk.err ⟨1, 2, 0, 0, [tickE]⟩ = 0 ∧ Bk.out ⟨1, 2, 0, 0, [tickE]⟩ = awY := by decide +kernel
theorem ba3 : Bk.err ⟨1, 2, 3, 0, []⟩ = 0 ∧ (Bk.out ⟨1, 2, 3, 0, []⟩).length = 15 := by decide +kernel
theorem ba4 : readB awX = (⟨2, 0, 0, 7, []⟩, 13, 0) := by decide +kernel
theorem ba5 : readB awZ = (Bk.zero, 0, 102) := by decide +kernel
theorem ba6 : readB (awZ.take 4) = (Bk.zero, 0, 100) := by decide +kernel
theorem ba7 : lenR [12, 0, 0, 0] = (0, 101) := by decide +kernel
theorem ba8 : Bk.err ⟨1, 2, 0, 0, []⟩ = 107 := by decide +kernel
theorem ba9 : Bk.err ⟨2, 0, 0, 0, []⟩ = 107 := by decide +kernel
theorem awX_lt : ∀ b ∈ awX, b < 256 := by decide
theorem awZ_lt : ∀ b ∈ awZ, b < 256 := by decide
end Go.Proofs.YtnakabnmjnfpcaaDoor

namespace Go.Proofs.YtnakabnmjnfpcaaDoor
open Go.RowKit
def atOf (b : Bs) (l : List Ev) : Nat → Bs
  | 0 => b
  | k + 1 => (l.getD k Ev.zero).at
theorem recs_take : ∀ (l : List Ev) (b : Bs) (k : Nat), k < l.length → recs b (l.take (k + 1)) = recs b (l.take k) ++ recBytes (atOf b l k) (l.getD k Ev.zero)
  | [], _, _, h => by simp at h
  | e :: r, b, 0, _ => by simp [recs, atOf]
  | e :: r, b, k + 1, h => by
    have h' : k < r.length := by simpa using h
    have ih := recs_take r e.at k h'
    rw [List.take_succ_cons, List.take_succ_cons, recs, recs, ih, List.append_assoc]
    congr 2
    cases k with
    | zero => rfl
    | succ k => rfl
theorem chain_fit {cpu : Nat} : ∀ (l : List Ev) (p : Option Ev) (b : Bs) (k : Nat), Chain cpu p b l → k < l.length → Fit (atOf b l k) (l.getD k Ev.zero)
  | [], _, _, _, _, h => by simp at h
  | e :: r, p, b, 0, hc, _ => hc.1
  | e :: r, p, b, k + 1, hc, h => by
    have h' : k < r.length := by simpa using h
    have ih := chain_fit r (some e) e.at k hc.2.2.2 h'
    cases k with
    | zero => exact ih
    | succ k => exact ih
theorem fit_put {b : Bs} {e : Ev} (h : Fit b e) : putErr b e = 0 ∧ putOut b e = recBytes b e := by
  have h1 : putErr b e = 0 := by
    unfold putErr
    rw [if_neg (by have := h.check; omega), if_pos ⟨h.right, h.behind⟩]
  exact ⟨h1, by unfold putOut; rw [if_pos h1]⟩
def Bk.atK (b : Bk) (k : Nat) : Bs := atOf b.base b.evs k
def Bk.sz (b : Bk) (k : Nat) : Nat := 12 + (vbytes b.cpu).length + (vbytes b.lost.toNat).length + (vbytes b.base.seq.toNat).length + (vbytes b.base.time.toNat).length + (recs b.base (b.evs.take k)).length
def Bk.big (b : Bk) (k : Nat) : Bool := decide (4096 < b.sz k + (vbytes k).length)
def Bk.fillN (b : Bk) : Nat := ((List.range b.evs.length).find? fun i => b.big (i + 1)).getD b.evs.length
def Bk.fill (b : Bk) : Nat × Nat := if b.fits = false then (0, 107) else (b.fillN, 0)
theorem sz_le (b : Bk) (k : Nat) : b.sz k ≤ 52 + 61 * k := by
  unfold Bk.sz
  have h1 := vbytes_length b.cpu
  have h2 := vbytes_length b.lost.toNat
  have h4 := vbytes_length b.base.seq.toNat
  have h5 := vbytes_length b.base.time.toNat
  have h6 := recsLenB (b.evs.take k) b.base
  rw [List.length_take] at h6
  have : min k b.evs.length ≤ k := Nat.min_le_left _ _
  have h7 : 61 * min k b.evs.length ≤ 61 * k := Nat.mul_le_mul_left _ this
  omega
theorem sz_zero (b : Bk) : b.sz 0 = 8 + ([b.cpu, b.lost.toNat, b.base.seq.toNat, b.base.time.toNat].flatMap vbytes).length + 4 := by
  unfold Bk.sz
  simp [recs]
  omega
theorem sz_succ {b : Bk} {k : Nat} (h : k < b.evs.length) : b.sz (k + 1) = b.sz k + (recBytes (b.atK k) (b.evs.getD k Ev.zero)).length := by
  unfold Bk.sz Bk.atK
  rw [recs_take _ _ _ h, List.length_append]
  omega
theorem fillN_at {b : Bk} {k : Nat} (hk : k < b.evs.length) (hno : ∀ i, i < k → b.big (i + 1) = false) (h : b.big (k + 1) = true) : b.fillN = k := by
  unfold Bk.fillN
  have : (List.range b.evs.length).find? (fun i => b.big (i + 1)) = some k := by
    rw [List.find?_eq_some_iff_append]
    refine ⟨h, List.range k, List.range' (k + 1) (b.evs.length - k - 1), ?_, ?_⟩
    · rw [List.range_eq_range', List.range_eq_range']
      have e1 : b.evs.length = k + (b.evs.length - k) := by omega
      have e2 : b.evs.length - k = (b.evs.length - k - 1) + 1 := by omega
      conv => lhs; rw [e1, ← List.range'_append_1, e2, List.range'_succ]
      simp
    · intro i hi
      have := hno i (List.mem_range.1 hi)
      simp [this]
  rw [this]
  rfl
theorem fillN_all {b : Bk} (hno : ∀ i, i < b.evs.length → b.big (i + 1) = false) : b.fillN = b.evs.length := by
  unfold Bk.fillN
  have : (List.range b.evs.length).find? (fun i => b.big (i + 1)) = none := by
    rw [List.find?_eq_none]
    intro i hi
    have := hno i (List.mem_range.1 hi)
    simp [this]
  rw [this]
  rfl
theorem fill_is {w w' : World} {b : Bk} {n e : Nat} (h : b.fill = (n, e)) (hb : Below w.heap.size w w') : Is w (.tuple #[.int .i64 (b.fill.1 : Int), .int .i64 (b.fill.2 : Int)]) (.returned (.tuple #[.int .i64 (n : Int), .int .i64 (e : Int)])) w' := by rw [h]; exact ⟨rfl, hb⟩
end Go.Proofs.YtnakabnmjnfpcaaDoor

namespace Go.Proofs.YtnakabnmjnfpcaaDoor
open Go.RowKit Go.ChangeShapes Go.WideShapes Go.ChangeAt
section
variable {H : Type} {enc : TypeId × Value → H} {W : World} {b0 : Nat} {v : Value} {d : DataW H} {p : List MemPlace}
theorem bk_f0 : fieldAt Tryd.prog 27 0 0 5 = true := by kernel_rfl
theorem bk_f1 : fieldAt Tryd.prog 27 1 1 5 = true := by kernel_rfl
theorem bk_f2 : fieldAt Tryd.prog 27 2 2 3 = true := by kernel_rfl
theorem bk_f3 : fieldAt Tryd.prog 27 3 3 3 = true := by kernel_rfl
theorem bk_f4 : fieldAt Tryd.prog 27 4 4 25 = true := by kernel_rfl
theorem bk_cells : Tryd.prog.cellsOf 27 = 5 := by kernel_rfl
set_option maxRecDepth 100000 in
theorem five_list {cs : List Value} {a b c d e : Value} (hl : cs.length = 5) (h0 : cs[0]? = some a) (h1 : cs[1]? = some b) (h2 : cs[2]? = some c) (h3 : cs[3]? = some d) (h4 : cs[4]? = some e) : cs = [a, b, c, d, e] := by
  refine list_eq hl fun i hi => ?_
  have hi' : i < 5 := hi
  have hc : i = 0 ∨ i = 1 ∨ i = 2 ∨ i = 3 ∨ i = 4 := by omega
  rcases hc with rfl | rfl | rfl | rfl | rfl <;> assumption
theorem evL_lenN {A : Option Addr} {n : Nat} {l : List Ev} (h : Rd W W.heap.size 11 A n (l.flatMap evL)) : l.length = n := by
  have h1 := h.len
  rw [flat_len evL 11 evL_len] at h1
  omega
set_option maxRecDepth 100000 in
theorem arg_bk (hval : Value.okWide Tryd.prog W .any b0 27 v) (h : DataW.Trod enc Tryd.prog W 0 (fun _ => true) true 27 v d p) :
    ∃ (x : Bk) (A : Option Addr) (c : Nat), v = .agg (x.cells A c) ∧ x.Ok ∧ x.evs.length ≤ c ∧ c ≤ maxLen ∧ Rd W W.heap.size 11 A x.evs.length (x.evs.flatMap evL) := by
  obtain ⟨fs, hu⟩ := of_isStructT (show isStructT Tryd.prog 27 = true by kernel_rfl)
  obtain ⟨cs, rfl, hs⟩ := okWide_struct hu hval
  obtain ⟨fuel, hf⟩ := h
  have hf : DataW.trod enc Tryd.prog W 0 (fun _ => true) true fuel 27 cs.toList = some (d, p) := hf
  obtain ⟨hl, _, y0, g0⟩ := struct_field bk_f0 hf
  obtain ⟨_, _, y1, g1⟩ := struct_field bk_f1 hf
  obtain ⟨_, _, y2, g2⟩ := struct_field bk_f2 hf
  obtain ⟨_, _, y3, g3⟩ := struct_field bk_f3 hf
  obtain ⟨_, _, y4, g4⟩ := struct_field bk_f4 hf
  have hl5 : cs.toList.length = 5 := by rw [← bk_cells]; exact hl
  obtain ⟨kd, e0, _, w0⟩ := DataW.trod_int und_u8 g0
  obtain ⟨cpu, e1, _, w1⟩ := DataW.trod_int und_u8 g1
  obtain ⟨lo, e2, _, w2⟩ := DataW.trod_int und_int g2
  obtain ⟨nx, e3, _, w3⟩ := DataW.trod_int und_int g3
  obtain ⟨A, n, c, l, e4, k1, k2, k3, k4⟩ := trod_events g4
  rw [cells_u8] at e0 e1
  rw [cells_int] at e2 e3
  rw [cells_evs] at e4
  have a0 := one_of_take e0
  have a1 := one_of_take e1
  have a2 := one_of_take e2
  have a3 := one_of_take e3
  have a4 := one_of_take e4
  have u0 := u8_wf w0
  have u1 := u8_wf w1
  have hn := evL_lenN k4
  subst hn
  refine ⟨⟨kd.toNat, cpu.toNat, lo, nx, l⟩, A, c, ?_, ⟨by show kd.toNat < 256; omega, by show cpu.toNat < 256; omega, i64_wf w2, i64_wf w3, k3⟩, k1, k2, k4⟩
  congr 1
  apply Array.toList_inj.1
  refine (five_list hl5 a0 a1 a2 a3 a4).trans ?_
  show _ = [Value.int .u8 ((kd.toNat : Nat) : Int), .int .u8 ((cpu.toNat : Nat) : Int), .int .i64 lo, .int .i64 nx, .slice A l.length c]
  rw [Int.toNat_of_nonneg u0.1, Int.toNat_of_nonneg u1.1]
end
end Go.Proofs.YtnakabnmjnfpcaaDoor

set_option linter.all false
namespace Go.Proofs.YtnakabnmjnfpcaaDoor
open Go.RowKit
set_option maxRecDepth 100000 in
set_option maxHeartbeats 4000000 in
theorem tick_any (w : World) : Calls Tryd.prog 17 #[] w (Is w (.agg tickE.cells)) := by
 refine calls_enter (vs := []) Tryd.func17 rfl rfl (by kernel_rfl) (σ0 := []) rfl ?_
 intro a HF
 have HM := Mem.start w
 refine wp_seq (from_start ?_)
 refine from_op HF (i := 0) rfl rfl ?_
 refine e_alloc HF HM (cs := #[vI 0, vI 0, vB 0, vB 0, vI 0, vI 0, vI 0, vI 0, vI 0, vQ 0, vI 0]) rfl (by kernel_rfl) rfl (by decide) ?_
 clear HF HM; intro a w0 g0 HF HM
 refine from_done rfl ?_
 refine wp_seq (from_start ?_)
 refine fy HF HM 0 rfl rfl rfl (v := .agg #[vI 5, vI 340, vB 2, vB 5, vI 0, vI 0, vI 0, vI 0, vI 40, vQ 0, vI 7]) (Yl.build (vs := [(0, vI 5), (1, vI 340), (2, vB 2), (3, vB 5), (8, vI 40), (10, vI 7)]) rfl (by kernel_rfl) (by kernel_rfl)) ?_; clear HF; intro a HF
 refine from_op HF (i := 1) rfl rfl ?_
 refine e_storeAll HF HM (i := 0) (cs := #[vI 0, vI 0, vB 0, vB 0, vI 0, vI 0, vI 0, vI 0, vI 0, vQ 0, vI 0]) (ds := #[vI 5, vI 340, vB 2, vB 5, vI 0, vI 0, vI 0, vI 0, vI 40, vQ 0, vI 7]) rfl rfl rfl rfl ⟨(by kernel_rfl), (by kernel_rfl)⟩ rfl rfl (by simp [Value.oneCell']) rfl ?_
 clear HM; intro w1_1 HM
 refine from_done rfl ?_
 refine wp_ret ?_
 exact ret1 rfl HF (.cellS (i := 0) HF HM rfl rfl ⟨(by kernel_rfl), (by kernel_rfl)⟩ rfl) (⟨rfl, HM.below⟩)
set_option maxRecDepth 100000 in
set_option maxHeartbeats 4000000 in
theorem bawake_any (B : Nat) (w : World) (hL : LaidX B w) (hB : B ≤ w.heap.size) : Calls Tryd.prog 6 #[] w (Is w (.bool true)) := by
 refine calls_enter (vs := []) Tryd.func6 rfl rfl (by kernel_rfl) (σ0 := []) rfl ?_
 intro a HF
 have HM := Mem.start w
 refine wp_seq (from_start ?_)
 refine fp HF 1 0 [(0, .bool false)] ?_; clear HF; intro a HF
 refine from_done rfl ?_
 refine wp_seq (from_start ?_)
 refine fy HF HM 0 rfl rfl rfl (v := .agg #[vB 2, vB 0, vI 0, vI 7, .slice none 0 0]) (Yl.build (vs := [(0, vB 2), (3, vI 7)]) rfl (by kernel_rfl) (by kernel_rfl)) ?_; clear HF; intro a HF
 refine from_op HF (i := 1) rfl rfl ?_
 refine e_call HF (vs := [.agg #[vB 2, vB 0, vI 0, vI 7, .slice none 0 0]]) rfl (by kernel_rfl) (by kernel_rfl) rfl (by decide) (bwrite_is (⟨2, 0, 0, 7, []⟩ : Bk) (numOk 2 0 0 7 (by decide) (by decide) (by unfold I64; decide) (by unfold I64; decide)) none 0 B _ (hL.mem HM hB) (HM.le hB) (Rd.nil) (by decide) (ba1.1) (ba1.2)) ?_
 rintro _ w20 ⟨⟨A20, c20, rfl, ho, hc20⟩, hbw⟩
 refine ⟨_, rfl, ?_⟩
 replace HM := HM.callRow hbw ho
 clear HF; intro a HF
 have hcn20 : 13 ≤ c20 := hc20
 refine fp HF 5 2 [(2, vI 0), (1, .slice A20 13 c20), (22, vI 0), (21, .slice A20 13 c20), (18, .tuple #[.slice A20 13 c20, vI 0])] ?_; clear HF; intro a HF
 refine from_done rfl ?_
 refine wp_seq (from_start ?_)
 refine from_op HF (i := 0) rfl rfl ?_
 refine e_call HF (vs := []) rfl (by kernel_rfl) (by kernel_rfl) rfl (by decide) (tick_any _) ?_
 rintro _ w24 ⟨rfl, hbw⟩
 refine ⟨_, rfl, ?_⟩
 replace HM := HM.call hbw
 clear HF; intro a HF
 refine from_op HF (i := 1) rfl rfl ?_
 refine e_slice HF HM (vs := [(0, .agg #[vI 5, vI 340, vB 2, vB 5, vI 0, vI 0, vI 0, vI 0, vI 40, vQ 0, vI 7])]) (cs := #[vI 5, vI 340, vB 2, vB 5, vI 0, vI 0, vI 0, vI 0, vI 40, vQ 0, vI 7]) rfl ei_ev (by decide) rfl (by kernel_rfl) rfl (by decide) ?_
 clear HF HM; intro a w25 g25 HF HM
 refine fy HF HM 2 rfl rfl rfl (v := .agg #[vB 1, vB 2, vI 0, vI 0, vS g25 1 1]) (Yl.build (vs := [(0, vB 1), (1, vB 2), (4, vS g25 1 1)]) rfl (by kernel_rfl) (by kernel_rfl)) ?_; clear HF; intro a HF
 refine from_op HF (i := 3) rfl rfl ?_
 refine e_call HF (vs := [.agg #[vB 1, vB 2, vI 0, vI 0, vS g25 1 1]]) rfl (by kernel_rfl) (by kernel_rfl) rfl (by decide) (bwrite_is (⟨1, 2, 0, 0, [tickE]⟩ : Bk) (oneOk (by decide) (by decide) (by unfold I64; decide) (by unfold I64; decide) tickOk) (some ⟨g25, 0, none⟩) 1 B _ (hL.mem HM hB) (HM.le hB) (HM.rdBlk (i := 0) (n := 1) (size := 11) rfl rfl) (by decide) (ba2.1) (ba2.2)) ?_
 rintro _ w27 ⟨⟨A27, c27, rfl, ho, hc27⟩, hbw⟩
 refine ⟨_, rfl, ?_⟩
 replace HM := HM.callRow hbw ho
 clear HF; intro a HF
 have hcn27 : 23 ≤ c27 := hc27
 refine fp HF 5 4 [(4, vI 0), (3, .slice A27 23 c27), (29, vI 0), (28, .slice A27 23 c27), (23, .tuple #[.slice A27 23 c27, vI 0])] ?_; clear HF; intro a HF
 refine from_done rfl ?_
 replace HM := HM.picks (fs' := [.row (.slice A27 23 c27) 23 (awY.map B8) 5 1, .row (.slice A20 13 c20) 13 (awX.map B8) 5 1]) [0, 2] (by decide) rfl
 refine wp_seq (from_start ?_)
 refine fy HF HM 0 rfl rfl rfl (v := .agg #[vB 1, vB 2, vI 3, vI 0, .slice none 0 0]) (Yl.build (vs := [(0, vB 1), (1, vB 2), (2, vI 3)]) rfl (by kernel_rfl) (by kernel_rfl)) ?_; clear HF; intro a HF
 refine from_op HF (i := 1) rfl rfl ?_
 refine e_call HF (vs := [.agg #[vB 1, vB 2, vI 3, vI 0, .slice none 0 0]]) rfl (by kernel_rfl) (by kernel_rfl) rfl (by decide) (bsize_is (⟨1, 2, 3, 0, []⟩ : Bk) (numOk 1 2 3 0 (by decide) (by decide) (by unfold I64; decide) (by unfold I64; decide)) none 0 B _ (hL.mem HM hB) (HM.le hB) (Rd.nil) (by decide) (ba3.1) (ba3.2)) ?_
 rintro _ w32 ⟨rfl, hbw⟩
 refine ⟨_, rfl, ?_⟩
 replace HM := HM.call hbw
 clear HF; intro a HF
 refine fp HF 5 2 [(6, vI 0), (5, vI 15), (34, vI 0), (33, vI 15), (30, .tuple #[vI 15, vI 0])] ?_; clear HF; intro a HF
 refine from_done rfl ?_
 replace HF := HF.to [(6, vI 0), (5, vI 15), (4, vI 0), (3, .slice A27 23 c27), (2, vI 0), (1, .slice A20 13 c20), (0, .bool false)]
 refine wp_seq (wp_seq (from_start ?_))
 refine fp HF 8 0 [(42, .slice A20 13 c20), (41, .bool false), (40, .bool false), (39, vI 0), (38, vI 0), (37, vI 0), (36, vI 0), (35, vI 0)] ?_; clear HF; intro a HF
 refine fy HF HM 8 rfl rfl rfl (Yl.len rfl rfl (by kernel_rfl)) ?_; clear HF; intro a HF
 refine fp HF 4 9 [(47, .slice A20 13 c20), (46, .bool false), (45, .bool false), (44, .bool false)] ?_; clear HF; intro a HF
 refine fy HF HM 13 rfl rfl rfl (v := .slice A20 9 c20) (Yl.sliceUpto ei_u8 (j := 9) rfl rfl rfl (by omega)) ?_; clear HF; intro a HF
 refine fy HF HM 14 rfl rfl rfl (v := .string (bstr (awX.take 9))) (Yl.str rfl rfl (fun _ h => (h.rd (i := 1) rfl).toB8 (k := 9) (by decide))) ?_; clear HF; intro a HF
 refine fp HF 1 15 [(50, .bool (!(((bstr (awX.take 9))).toList == ((ByteArray.mk #[13, 0, 0, 0, 113, 116, 1, 2, 7])).toList)))] ?_; clear HF; intro a HF
 replace HF := HF.as (t := 50) (u := .bool false) rfl (by rw [str_lit (by kernel_rfl)]; rfl)
 refine fp HF 3 16 [(53, .slice A27 23 c27), (52, .bool false), (51, .bool false)] ?_; clear HF; intro a HF
 refine fy HF HM 19 rfl rfl rfl (Yl.len rfl rfl (by kernel_rfl)) ?_; clear HF; intro a HF
 refine fp HF 4 20 [(58, .slice A27 23 c27), (57, .bool false), (56, .bool false), (55, .bool false)] ?_; clear HF; intro a HF
 refine fy HF HM 24 rfl rfl rfl (v := .slice A27 19 c27) (Yl.sliceUpto ei_u8 (j := 19) rfl rfl rfl (by omega)) ?_; clear HF; intro a HF
 refine fy HF HM 25 rfl rfl rfl (v := .string (bstr (awY.take 19))) (Yl.str rfl rfl (fun _ h => (h.rd (i := 0) rfl).toB8 (k := 19) (by decide))) ?_; clear HF; intro a HF
 refine fp HF 1 26 [(61, .bool (!(((bstr (awY.take 19))).toList == ((ByteArray.mk #[23, 0, 0, 0, 113, 116, 1, 1, 2, 0, 1, 5, 212, 2, 5, 0, 0, 40, 7])).toList)))] ?_; clear HF; intro a HF
 replace HF := HF.as (t := 61) (u := .bool false) rfl (by rw [str_lit (by kernel_rfl)]; rfl)
 refine fp HF 5 27 [(66, .bool false), (65, .bool false), (64, vI 15), (63, .bool false), (62, .bool false)] ?_; clear HF; intro a HF
 refine from_done rfl ?_
 replace HF := HF.to [(66, .bool false), (1, .slice A20 13 c20), (0, .bool false)]
 replace HM := HM.picks (fs' := [.row (.slice A20 13 c20) 13 (awX.map B8) 5 1]) [1] (by decide) rfl
 refine cond_false HF rfl (wp_skip (wp_seq (from_start ?_)))
 refine fp HF 1 0 [(68, .slice A20 13 c20)] ?_; clear HF; intro a HF
 refine from_op HF (i := 1) rfl rfl ?_
 refine e_call HF (vs := [.slice A20 13 c20]) rfl (by kernel_rfl) (by kernel_rfl) rfl (by decide) (bread_is A20 13 c20 awX B _ (hL.mem HM hB) (HM.le hB) (HM.rd (i := 0) rfl) (by omega) (rfl) (by decide) (awX_lt) (ba4)) ?_
 rintro _ w69 ⟨⟨A69, c69, rfl, ho, hc69⟩, hbw⟩
 refine ⟨_, rfl, ?_⟩
 replace HM := HM.callRow hbw ho
 clear HF; intro a HF
 refine fp HF 4 2 [(72, vI 0), (71, vI 13), (70, .agg #[vB 2, vB 0, vI 0, vI 7, .slice A69 0 c69]), (67, .tuple #[.agg #[vB 2, vB 0, vI 0, vI 7, .slice A69 0 c69], vI 13, vI 0])] ?_; clear HF; intro a HF
 refine from_op HF (i := 6) rfl rfl ?_
 refine e_alloc HF HM (cs := #[vB 0, vB 0, vI 0, vI 0, .slice none 0 0]) rfl (by kernel_rfl) rfl (by decide) ?_
 clear HF HM; intro a w7 g7 HF HM
 refine from_op HF (i := 7) rfl rfl ?_
 refine e_storeAll HF HM (i := 0) (cs := #[vB 0, vB 0, vI 0, vI 0, .slice none 0 0]) (ds := #[vB 2, vB 0, vI 0, vI 7, .slice A69 0 c69]) rfl rfl rfl rfl si_bk rfl rfl (by simp [Value.oneCell']) rfl ?_
 clear HM; intro w6_7 HM
 refine fp HF 2 8 [(9, vI 0), (8, vI 13)] ?_; clear HF; intro a HF
 refine from_done rfl ?_
 refine wp_seq (from_start ?_)
 refine fp HF 1 0 [(73, .slice A20 13 c20)] ?_; clear HF; intro a HF
 obtain ⟨gA20, rfl⟩ := own_some (HM.own (i := 2) rfl) (Nat.lt_of_le_of_lt (Nat.zero_le _) (show 8 < 13 from by decide))
 refine fy HF HM 1 rfl rfl rfl (v := vP gA20 8) (Yl.indexAddr (ad := ⟨gA20, 0, none⟩) (y := 8) (sz := 1) rfl rfl rfl (by decide) (by kernel_rfl)) ?_; clear HF; intro a HF
 refine fy HF HM 2 rfl rfl rfl (v := vB 7) (Yl.load1 rfl rfl (by kernel_rfl) (fun _ h => h.rowOne (i := 2) rfl (k := 8) (map_at (F := B8) (k := 8) (x := 7) (rfl)))) ?_; clear HF; intro a HF
 refine fp HF 1 3 [(76, vB (IntKind.u8.wrap (BitVec.ofInt (IntKind.u8).bits (7 : Int) ^^^ BitVec.ofInt (IntKind.u8).bits 1).toNat))] ?_; clear HF; intro a HF
 replace HF := HF.as (t := 76) (u := vB 6) rfl (by kernel_rfl)
 refine fy HF HM 4 rfl rfl rfl (v := vP gA20 8) (Yl.indexAddr (ad := ⟨gA20, 0, none⟩) (y := 8) (sz := 1) rfl rfl rfl (by decide) (by kernel_rfl)) ?_; clear HF; intro a HF
 refine from_op HF (i := 5) rfl rfl ?_
 refine e_storeRow HF HM (i := 2) rfl rfl rfl rfl (by kernel_rfl) rfl rfl (by decide) ?_
 clear HM; intro w7_5 HM
 replace HM := HM.asRow (i := 2) (ys := awZ.map B8) rfl (putAt_one B8 awX 8 6 (by decide))
 refine from_done rfl ?_
 refine wp_seq (from_start ?_)
 refine fp HF 1 0 [(79, vS gA20 13 c20)] ?_; clear HF; intro a HF
 refine from_op HF (i := 1) rfl rfl ?_
 refine e_call HF (vs := [vS gA20 13 c20]) rfl (by kernel_rfl) (by kernel_rfl) rfl (by decide) (bread_is (some ⟨gA20, 0, none⟩) 13 c20 awZ B _ (hL.mem HM hB) (HM.le hB) (HM.rd (i := 2) rfl) (by omega) (rfl) (by decide) (awZ_lt) (ba5)) ?_
 rintro _ w80 ⟨⟨A80, c80, rfl, ho, hc80⟩, hbw⟩
 refine ⟨_, rfl, ?_⟩
 replace HM := HM.callRow hbw ho
 clear HF; intro a HF
 refine fp HF 4 2 [(83, vI 102), (82, vI 0), (81, .agg #[vB 0, vB 0, vI 0, vI 0, .slice A80 0 c80]), (78, .tuple #[.agg #[vB 0, vB 0, vI 0, vI 0, .slice A80 0 c80], vI 0, vI 102])] ?_; clear HF; intro a HF
 refine from_op HF (i := 6) rfl rfl ?_
 refine e_alloc HF HM (cs := #[vB 0, vB 0, vI 0, vI 0, .slice none 0 0]) rfl (by kernel_rfl) rfl (by decide) ?_
 clear HF HM; intro a w10 g10 HF HM
 refine from_op HF (i := 7) rfl rfl ?_
 refine e_storeAll HF HM (i := 0) (cs := #[vB 0, vB 0, vI 0, vI 0, .slice none 0 0]) (ds := #[vB 0, vB 0, vI 0, vI 0, .slice A80 0 c80]) rfl rfl rfl rfl si_bk rfl rfl (by simp [Value.oneCell']) rfl ?_
 clear HM; intro w8_7 HM
 refine fp HF 2 8 [(12, vI 102), (11, vI 0)] ?_; clear HF; intro a HF
 refine from_done rfl ?_
 replace HF := HF.to [(12, vI 102), (9, vI 0), (8, vI 13), (7, vP g7 0), (66, .bool false), (1, vS gA20 13 c20), (0, .bool false)]
 replace HM := HM.picks (fs' := [.row (.slice A80 Bk.zero.evs.length c80) Bk.zero.evs.length (Bk.zero.evs.flatMap evL) 46 11, .blk g7 #[vB 2, vB 0, vI 0, vI 7, .slice A69 0 c69] 27, .row (.slice A69 ((⟨2, 0, 0, 7, []⟩ : Bk).evs.length) c69) ((⟨2, 0, 0, 7, []⟩ : Bk).evs.length) ((⟨2, 0, 0, 7, []⟩ : Bk).evs.flatMap evL) 46 11, .row (vS gA20 13 c20) 13 (awZ.map B8) 5 1]) [1, 2, 3, 4] (by decide) rfl
 refine wp_seq (from_start ?_)
 refine fp HF 1 0 [(85, vS gA20 13 c20)] ?_; clear HF; intro a HF
 refine fy HF HM 1 rfl rfl rfl (v := vS gA20 4 c20) (Yl.sliceUpto ei_u8 (j := 4) rfl rfl rfl (by omega)) ?_; clear HF; intro a HF
 refine from_op HF (i := 2) rfl rfl ?_
 refine e_call HF (vs := [vS gA20 4 c20]) rfl (by kernel_rfl) (by kernel_rfl) rfl (by decide) (bread_is (some ⟨gA20, 0, none⟩) 4 c20 (awZ.take 4) B _ (hL.mem HM hB) (HM.le hB) (((HM.rd (i := 3) rfl).toB8 (k := 4) (by decide))) (by omega) (rfl) (by decide) ((take_lt awZ_lt 4)) (ba6)) ?_
 rintro _ w87 ⟨⟨A87, c87, rfl, ho, hc87⟩, hbw⟩
 refine ⟨_, rfl, ?_⟩
 replace HM := HM.callRow hbw ho
 clear HF; intro a HF
 refine fp HF 4 3 [(90, vI 100), (89, vI 0), (88, .agg #[vB 0, vB 0, vI 0, vI 0, .slice A87 0 c87]), (84, .tuple #[.agg #[vB 0, vB 0, vI 0, vI 0, .slice A87 0 c87], vI 0, vI 100])] ?_; clear HF; intro a HF
 refine from_op HF (i := 7) rfl rfl ?_
 refine e_alloc HF HM (cs := #[vB 0, vB 0, vI 0, vI 0, .slice none 0 0]) rfl (by kernel_rfl) rfl (by decide) ?_
 clear HF HM; intro a w13 g13 HF HM
 refine from_op HF (i := 8) rfl rfl ?_
 refine e_storeAll HF HM (i := 0) (cs := #[vB 0, vB 0, vI 0, vI 0, .slice none 0 0]) (ds := #[vB 0, vB 0, vI 0, vI 0, .slice A87 0 c87]) rfl rfl rfl rfl si_bk rfl rfl (by simp [Value.oneCell']) rfl ?_
 clear HM; intro w9_8 HM
 refine fp HF 2 9 [(15, vI 100), (14, vI 0)] ?_; clear HF; intro a HF
 refine from_done rfl ?_
 replace HM := HM.picks (fs' := [.row (.slice A87 Bk.zero.evs.length c87) Bk.zero.evs.length (Bk.zero.evs.flatMap evL) 46 11, .row (.slice A80 Bk.zero.evs.length c80) Bk.zero.evs.length (Bk.zero.evs.flatMap evL) 46 11, .blk g7 #[vB 2, vB 0, vI 0, vI 7, .slice A69 0 c69] 27, .row (.slice A69 ((⟨2, 0, 0, 7, []⟩ : Bk).evs.length) c69) ((⟨2, 0, 0, 7, []⟩ : Bk).evs.length) ((⟨2, 0, 0, 7, []⟩ : Bk).evs.flatMap evL) 46 11, .row (vS gA20 13 c20) 13 (awZ.map B8) 5 1]) [1, 2, 3, 4, 5] (by decide) rfl
 refine wp_seq (from_start ?_)
 refine from_op HF (i := 0) rfl rfl ?_
 refine e_slice HF HM (vs := [(0, vB 12), (1, vB 0), (2, vB 0), (3, vB 0)]) (cs := #[vB 12, vB 0, vB 0, vB 0]) rfl ei_u8 (by decide) rfl (by kernel_rfl) rfl (by decide) ?_
 clear HF HM; intro a w92 g92 HF HM
 refine from_op HF (i := 1) rfl rfl ?_
 refine e_call HF (vs := [vS g92 4 4]) rfl (by kernel_rfl) (by kernel_rfl) rfl (by decide) (length_is _ 4 _ [12, 0, 0, 0] _ (HM.rdBlk (i := 0) (n := 4) (size := 1) rfl rfl) rfl (by decide) (by decide) ba7) ?_
 rintro _ w93 ⟨rfl, hbw⟩
 refine ⟨_, rfl, ?_⟩
 replace HM := HM.call hbw
 clear HF; intro a HF
 refine fp HF 5 2 [(17, vI 101), (16, vI 0), (95, vI 101), (94, vI 0), (91, .tuple #[vI 0, vI 101])] ?_; clear HF; intro a HF
 refine from_done rfl ?_
 replace HM := HM.picks (fs' := [.row (.slice A87 Bk.zero.evs.length c87) Bk.zero.evs.length (Bk.zero.evs.flatMap evL) 46 11, .row (.slice A80 Bk.zero.evs.length c80) Bk.zero.evs.length (Bk.zero.evs.flatMap evL) 46 11, .blk g7 #[vB 2, vB 0, vI 0, vI 7, .slice A69 0 c69] 27, .row (.slice A69 ((⟨2, 0, 0, 7, []⟩ : Bk).evs.length) c69) ((⟨2, 0, 0, 7, []⟩ : Bk).evs.length) ((⟨2, 0, 0, 7, []⟩ : Bk).evs.flatMap evL) 46 11, .row (vS gA20 13 c20) 13 (awZ.map B8) 5 1]) [1, 2, 3, 4, 5] (by decide) rfl
 refine wp_seq (from_start ?_)
 refine fp HF 8 0 [(103, vP g7 0), (102, .bool true), (101, .bool true), (100, .bool true), (99, vI 13), (98, .bool true), (97, .bool true), (96, vI 0)] ?_; clear HF; intro a HF
 refine fy HF HM 8 rfl rfl rfl (Yl.load1 rfl rfl (by kernel_rfl) (fun _ h => h.cell (i := 2) rfl rfl)) ?_; clear HF; intro a HF
 refine fp HF 4 9 [(108, vP g7 3), (107, .bool true), (106, .bool true), (105, .bool true)] ?_; clear HF; intro a HF
 refine fy HF HM 13 rfl rfl rfl (Yl.load1 rfl rfl (by kernel_rfl) (fun _ h => h.cell (i := 2) rfl rfl)) ?_; clear HF; intro a HF
 refine fp HF 15 14 [(124, .bool true), (123, .bool true), (122, .bool true), (121, vI 101), (120, .bool true), (119, .bool true), (118, .bool true), (117, vI 100), (116, .bool true), (115, .bool true), (114, .bool true), (113, vI 102), (112, .bool true), (111, .bool true), (110, .bool true)] ?_; clear HF; intro a HF
 refine fy HF HM 29 rfl rfl rfl (v := .agg #[vB 1, vB 2, vI 0, vI 0, .slice none 0 0]) (Yl.build (vs := [(0, vB 1), (1, vB 2)]) rfl (by kernel_rfl) (by kernel_rfl)) ?_; clear HF; intro a HF
 refine from_op HF (i := 30) rfl rfl ?_
 refine e_call HF (vs := [.agg #[vB 1, vB 2, vI 0, vI 0, .slice none 0 0]]) rfl (by kernel_rfl) (by kernel_rfl) rfl (by decide) (bcheck_is (⟨1, 2, 0, 0, []⟩ : Bk) (numOk 1 2 0 0 (by decide) (by decide) (by unfold I64; decide) (by unfold I64; decide)) none 0 B _ (hL.mem HM hB) (HM.le hB) (Rd.nil) (by decide) (ba8)) ?_
 rintro _ w126 ⟨rfl, hbw⟩
 refine ⟨_, rfl, ?_⟩
 replace HM := HM.call hbw
 clear HF; intro a HF
 refine fp HF 3 31 [(129, .bool true), (128, .bool true), (127, .bool true)] ?_; clear HF; intro a HF
 refine fy HF HM 34 rfl rfl rfl (v := .agg #[vB 2, vB 0, vI 0, vI 0, .slice none 0 0]) (Yl.build (vs := [(0, vB 2)]) rfl (by kernel_rfl) (by kernel_rfl)) ?_; clear HF; intro a HF
 refine from_op HF (i := 35) rfl rfl ?_
 refine e_call HF (vs := [.agg #[vB 2, vB 0, vI 0, vI 0, .slice none 0 0]]) rfl (by kernel_rfl) (by kernel_rfl) rfl (by decide) (bcheck_is (⟨2, 0, 0, 0, []⟩ : Bk) (numOk 2 0 0 0 (by decide) (by decide) (by unfold I64; decide) (by unfold I64; decide)) none 0 B _ (hL.mem HM hB) (HM.le hB) (Rd.nil) (by decide) (ba9)) ?_
 rintro _ w131 ⟨rfl, hbw⟩
 refine ⟨_, rfl, ?_⟩
 replace HM := HM.call hbw
 clear HF; intro a HF
 refine fp HF 3 36 [(0, .bool true), (133, .bool true), (132, .bool true)] ?_; clear HF; intro a HF
 refine from_done rfl ?_
 replace HF := HF.to [(0, .bool true), (7, vP g7 0), (66, .bool false), (1, vS gA20 13 c20)]
 refine wp_ret ?_
 exact ret1 rfl HF (.tmp HF rfl) (⟨rfl, HM.below⟩)
end Go.Proofs.YtnakabnmjnfpcaaDoor

set_option linter.all false
namespace Go.Proofs.YtnakabnmjnfpcaaDoor
open Go.RowKit
set_option maxRecDepth 100000 in
set_option maxHeartbeats 4000000 in
theorem bfill_any (b : Bk) (hok : b.Ok) (A : Option Addr) (c B : Nat) (w : World) (hL : LaidX B w) (hB : B ≤ w.heap.size) (hr : Rd w w.heap.size 11 A b.evs.length (b.evs.flatMap evL)) (hn : b.evs.length ≤ 1000000) :
    Calls Tryd.prog 22 #[.agg (b.cells A c)] w (Is w (.tuple #[.int .i64 (b.fill.1 : Int), .int .i64 (b.fill.2 : Int)])) := by
 refine calls_enter (vs := [.agg (b.cells A c)]) Tryd.func22 rfl rfl (by kernel_rfl) (σ0 := [(0, .agg (b.cells A c))]) rfl ?_
 intro a HF
 have HM := Mem.start w
 refine wp_seq (from_start ?_)
 refine from_op HF (i := 0) rfl rfl ?_
 refine e_box HF HM (cs := (b.cells A c)) rfl rfl rfl rfl (by decide) ?_
 clear HF HM; intro a w1 g1 HF HM
 refine fp HF 2 1 [(3, vI 0), (2, vI 0)] ?_; clear HF; intro a HF
 refine from_done rfl ?_
 refine wp_seq (wp_seq (from_start ?_))
 refine fy HF HM 0 rfl rfl rfl (v := .agg (b.cells A c)) (Yl.loadS rfl rfl si_bk rfl (fun _ h => range_of_block (h.blk (i := 0) rfl))) ?_; clear HF; intro a HF
 refine from_op HF (i := 1) rfl rfl ?_
 refine e_call HF (vs := [.agg (b.cells A c)]) rfl (by kernel_rfl) (by kernel_rfl) rfl (by decide) (fits_any b hok A c B _ (hL.mem HM hB) (HM.le hB) (HM.old hr) hn) ?_
 rintro _ w11 ⟨rfl, hbw⟩
 refine ⟨_, rfl, ?_⟩
 replace HM := HM.call hbw
 clear HF; intro a HF
 refine fp HF 1 2 [(12, .bool (!b.fits))] ?_; clear HF; intro a HF
 refine from_done rfl ?_
 rcases Bool.eq_false_or_eq_true (!b.fits) with hb12 | hb12
 ·have HF := HF.on 12 hb12
  have hf : b.fits = false := by simpa using hb12
  refine cond_true HF rfl (wp_seq (from_start ?_))
  refine fp HF 2 0 [(3, vI 107), (2, vI 0)] ?_; clear HF; intro a HF
  refine from_done rfl ?_
  refine wp_ret ?_
  exact ret2 rfl HF (.tmp HF rfl) (.tmp HF rfl) (fill_is (by unfold Bk.fill; rw [if_pos hf]) HM.below)
 ·have HF := HF.on 12 hb12
  have hf : b.fits = true := by simpa using hb12
  refine cond_false HF rfl (wp_skip (wp_seq (wp_seq (from_start ?_))))
  refine fp HF 1 0 [(13, vP g1 4)] ?_; clear HF; intro a HF
  refine fy HF HM 1 rfl rfl rfl (v := .slice A b.evs.length c) (Yl.load1 rfl rfl (by kernel_rfl) (fun _ h => h.cell (i := 0) rfl (rfl))) ?_; clear HF; intro a HF
  refine fy HF HM 2 rfl rfl rfl (Yl.len rfl rfl (by kernel_rfl)) ?_; clear HF; intro a HF
  refine fp HF 1 3 [(16, .bool ((b.evs.length : Int) == (0 : Int)))] ?_; clear HF; intro a HF
  refine from_done rfl ?_
  rcases Bool.eq_false_or_eq_true ((b.evs.length : Int) == (0 : Int)) with hb16 | hb16
  ·have HF := HF.on 16 hb16
   have hd16 := eq_of_beq hb16
   refine cond_true HF rfl (wp_seq (from_start ?_))
   refine fp HF 2 0 [(3, vI 0), (2, vI 0)] ?_; clear HF; intro a HF
   refine from_done rfl ?_
   refine wp_ret ?_
   exact ret2 rfl HF (.tmp HF rfl) (.tmp HF rfl) (fill_is (by unfold Bk.fill; rw [if_neg (by rw [hf]; decide), fillN_all (fun i hi => absurd hi (by omega)), show b.evs.length = 0 by omega]) HM.below)
  ·have HF := HF.on 16 hb16
   have hd16 := ne_of_beq_false hb16
   have hk : b.kind ≠ 2 := fun h2 => by have := fits_next hf h2; omega
   obtain ⟨m0, m1, m2, m3, m4⟩ := fits_lost hf hk
   obtain ⟨q1, q2, q3, q4⟩ := base_bnd hok hf hk (by omega)
   obtain ⟨e0, r0, g0⟩ := fits_row hok (fits_evs hf hk).2 (by omega)
   have hch := g0.chain
   rw [← g0.base] at hch
   refine cond_false HF rfl (wp_skip (wp_seq (from_start ?_)))
   refine fy HF HM 0 rfl rfl rfl (v := .agg (b.cells A c)) (Yl.loadS rfl rfl si_bk rfl (fun _ h => range_of_block (h.blk (i := 0) rfl))) ?_; clear HF; intro a HF
   refine from_op HF (i := 1) rfl rfl ?_
   refine e_call HF (vs := [.agg (b.cells A c)]) rfl (by kernel_rfl) (by kernel_rfl) rfl (by decide) (base_any b A c _ (HM.old hr) (by omega)) ?_
   rintro _ w18 ⟨rfl, hbw⟩
   refine ⟨_, rfl, ?_⟩
   replace HM := HM.call hbw
   clear HF; intro a HF
   refine from_op HF (i := 2) rfl rfl ?_
   refine e_alloc HF HM (cs := #[vI 0, vI 0]) rfl (by kernel_rfl) rfl (by decide) ?_
   clear HF HM; intro a w4 g4 HF HM
   refine from_op HF (i := 3) rfl rfl ?_
   refine e_storeAll HF HM (i := 0) (cs := #[vI 0, vI 0]) (ds := b.base.cells) rfl rfl rfl rfl ⟨(by kernel_rfl), (by kernel_rfl)⟩ rfl rfl (bs_one b.base) rfl ?_
   clear HM; intro w5_3 HM
   refine from_done rfl ?_
   refine wp_seq (from_start ?_)
   refine fp HF 1 0 [(19, vP g1 1)] ?_; clear HF; intro a HF
   refine fy HF HM 1 rfl rfl rfl (v := vB b.cpu) (Yl.load1 rfl rfl (by kernel_rfl) (fun _ h => h.cell (i := 1) rfl (rfl))) ?_; clear HF; intro a HF
   refine fp HF 1 2 [(21, vQ (IntKind.u64.wrap (b.cpu : Int)))] ?_; clear HF; intro a HF
   replace HF := HF.as (t := 21) (u := vQ b.cpu) rfl (u64_nat rfl (by omega))
   refine fp HF 1 3 [(22, vP g1 2)] ?_; clear HF; intro a HF
   refine fy HF HM 4 rfl rfl rfl (v := vI b.lost) (Yl.load1 rfl rfl (by kernel_rfl) (fun _ h => h.cell (i := 1) rfl (rfl))) ?_; clear HF; intro a HF
   refine fp HF 1 5 [(24, vQ (IntKind.u64.wrap b.lost))] ?_; clear HF; intro a HF
   replace HF := HF.as (t := 24) (u := vQ b.lost.toNat) rfl (u64_nat (by omega) (by omega))
   refine fp HF 1 6 [(25, vP g4 0)] ?_; clear HF; intro a HF
   refine fy HF HM 7 rfl rfl rfl (v := vI b.base.seq) (Yl.load1 rfl rfl (by kernel_rfl) (fun _ h => h.cell (i := 0) rfl (rfl))) ?_; clear HF; intro a HF
   refine fp HF 1 8 [(27, vQ (IntKind.u64.wrap b.base.seq))] ?_; clear HF; intro a HF
   replace HF := HF.as (t := 27) (u := vQ b.base.seq.toNat) rfl (u64_nat (by omega) (by omega))
   refine fp HF 1 9 [(28, vP g4 1)] ?_; clear HF; intro a HF
   refine fy HF HM 10 rfl rfl rfl (v := vI b.base.time) (Yl.load1 rfl rfl (by kernel_rfl) (fun _ h => h.cell (i := 0) rfl (rfl))) ?_; clear HF; intro a HF
   refine fp HF 1 11 [(30, vQ (IntKind.u64.wrap b.base.time))] ?_; clear HF; intro a HF
   replace HF := HF.as (t := 30) (u := vQ b.base.time.toNat) rfl (u64_nat (by omega) (by omega))
   refine from_op HF (i := 12) rfl rfl ?_
   refine e_slice HF HM (vs := [(0, vQ b.cpu), (1, vQ b.lost.toNat), (2, vQ b.base.seq.toNat), (3, vQ b.base.time.toNat)]) (cs := #[vQ b.cpu, vQ b.lost.toNat, vQ b.base.seq.toNat, vQ b.base.time.toNat]) rfl ei_u64 (by decide) rfl (by kernel_rfl) rfl (by decide) ?_
   clear HF HM; intro a w31 g31 HF HM
   refine from_op HF (i := 13) rfl rfl ?_
   refine e_call HF (vs := [vS g31 4 4]) rfl (by kernel_rfl) (by kernel_rfl) rfl (by decide) (vall_is _ 4 _ [b.cpu, b.lost.toNat, b.base.seq.toNat, b.base.time.toNat] _ (HM.rdBlk (i := 0) (n := 4) (size := 1) rfl rfl) (by intro x hx; simp only [List.mem_cons, List.not_mem_nil, or_false] at hx; omega) (by omega)) ?_
   rintro _ w32 ⟨⟨A32, c32, rfl, ho, hc32⟩, hbw⟩
   refine ⟨_, rfl, ?_⟩
   replace HM := HM.callRow hbw ho
   clear HF; intro a HF
   have hfl := flat_length [b.cpu, b.lost.toNat, b.base.seq.toNat, b.base.time.toNat]
   refine fy HF HM 14 rfl rfl rfl (Yl.len rfl rfl (by kernel_rfl)) ?_; clear HF; intro a HF
   refine fp HF 1 15 [(34, vI (IntKind.i64.wrap (8 + ((([b.cpu, b.lost.toNat, b.base.seq.toNat, b.base.time.toNat].flatMap vbytes).length : Nat) : Int))))] ?_; clear HF; intro a HF
   replace HF := HF.as (t := 34) (u := vI (8 + ([b.cpu, b.lost.toNat, b.base.seq.toNat, b.base.time.toNat].flatMap vbytes).length : Nat)) rfl (i64_nat (by omega) (by simp only [List.length_cons, List.length_nil] at hfl; omega))
   refine fp HF 1 16 [(35, vI (IntKind.i64.wrap (((8 + ([b.cpu, b.lost.toNat, b.base.seq.toNat, b.base.time.toNat].flatMap vbytes).length : Nat) : Int) + 4)))] ?_; clear HF; intro a HF
   replace HF := HF.as (t := 35) (u := vI (b.sz 0)) rfl (i64_nat (by rw [sz_zero]; omega) (by have := sz_le b 0; omega))
   refine fp HF 1 17 [(5, vI (b.sz 0))] ?_; clear HF; intro a HF
   refine from_done rfl ?_
   replace HF := HF.to [(5, vI (b.sz 0)), (4, vP g4 0), (16, .bool false), (12, .bool false), (3, vI 0), (2, vI 0), (1, vP g1 0)]
   replace HM := HM.picks (fs' := [.blk g4 b.base.cells 69, .blk g1 (b.cells A c) 27]) [2, 3] (by decide) rfl
   refine wp_seq (wp_seq (from_start ?_))
   refine fp HF 1 0 [(36, vP g1 4)] ?_; clear HF; intro a HF
   refine fy HF HM 1 rfl rfl rfl (v := .slice A b.evs.length c) (Yl.load1 rfl rfl (by kernel_rfl) (fun _ h => h.cell (i := 1) rfl (rfl))) ?_; clear HF; intro a HF
   refine fy HF HM 2 rfl rfl rfl (Yl.len rfl rfl (by kernel_rfl)) ?_; clear HF; intro a HF
   refine fp HF 1 3 [(39, vI 0)] ?_; clear HF; intro a HF
   refine from_done rfl ?_
   refine wp_block ?_
   refine loop_nat (fun mS aS wS => ∃ (k : Nat), (k ≤ b.evs.length) ∧ (∀ i, i < k → b.big (i + 1) = false) ∧ mS = b.evs.length - k ∧ Fr aS 70 [] [(39, vI k), (38, vI b.evs.length), (37, .slice A b.evs.length c), (5, vI (b.sz k)), (4, vP g4 0), (16, .bool false), (12, .bool false), (3, vI 0), (2, vI 0), (1, vP g1 0)] ∧ Mem w wS [.blk g4 ((b.atK k).cells) 69, .blk g1 (b.cells A c) 27]) (m := b.evs.length - 0) ⟨0, Nat.zero_le _, fun i hi => absurd hi (Nat.not_lt_zero _), rfl, HF.sub (by kernel_rfl), HM.picks [0, 1] (by decide) rfl⟩ ?_
   clear HF HM; rintro mS a w_ ⟨k, hk0, hno, rfl, HF, HM⟩
   refine wp_seq (from_start ?_)
   refine fp HF 1 0 [(40, .bool (decide ((k : Int) < (b.evs.length : Int))))] ?_; clear HF; intro a HF
   refine from_done rfl ?_
   refine wp_seq ?_
   rcases Bool.eq_false_or_eq_true (decide ((k : Int) < (b.evs.length : Int))) with hb40 | hb40
   ·have HF := HF.on 40 hb40
    have hd40 := of_decide_eq_true hb40
    have hk40 : k < b.evs.length := by omega
    have hp := fit_put (chain_fit b.evs none b.base k hch hk40)
    have hs0 := sz_le b k
    have hs1 := sz_le b (k + 1)
    have hvb := vbytes_length (k + 1)
    refine cond_true HF rfl (wp_skip (wp_seq (wp_block (wp_seq (from_start ?_)))))
    refine fp HF 1 0 [(41, vI k)] ?_; clear HF; intro a HF
    obtain ⟨gA, oA, rfl, _⟩ := hr.some_at (Nat.lt_of_le_of_lt (Nat.zero_le _) (show k < b.evs.length from by omega)) (by decide)
    refine fy HF HM 1 rfl rfl rfl (v := vP gA (oA + k * 11)) ((Yl.indexAddr (ad := ⟨gA, oA, none⟩) (y := k) (sz := 11) rfl rfl rfl (by omega) (by kernel_rfl)).as (by rw [Addr.add_mid])) ?_; clear HF; intro a HF
    refine fy HF HM 2 rfl rfl rfl (v := .agg ((b.evs.getD k Ev.zero).cells)) (Yl.loadS rfl rfl ⟨(by kernel_rfl), (by kernel_rfl)⟩ rfl (fun _ h => (h.old hr).structAt evL_len ((getD_at Ev.zero (k := k) (by first | omega | (simp; omega)))))) ?_; clear HF; intro a HF
    refine from_op HF (i := 3) rfl rfl ?_
    refine e_alloc HF HM (cs := #[vI 0, vI 0, vB 0, vB 0, vI 0, vI 0, vI 0, vI 0, vI 0, vQ 0, vI 0]) rfl (by kernel_rfl) rfl (by decide) ?_
    clear HF HM; intro a w7 g7 HF HM
    refine fp HF 1 4 [(6, vI k)] ?_; clear HF; intro a HF
    refine from_op HF (i := 5) rfl rfl ?_
    refine e_storeAll HF HM (i := 0) (cs := #[vI 0, vI 0, vB 0, vB 0, vI 0, vI 0, vI 0, vI 0, vI 0, vQ 0, vI 0]) (ds := (b.evs.getD k Ev.zero).cells) rfl rfl rfl rfl ⟨(by kernel_rfl), (by kernel_rfl)⟩ rfl rfl (ev_one (b.evs.getD k Ev.zero)) rfl ?_
    clear HM; intro w9_5 HM
    refine from_done rfl ?_
    refine wp_seq (from_start ?_)
    refine fy HF HM 0 rfl rfl rfl (v := .agg ((b.atK k).cells)) (Yl.loadS rfl rfl ⟨(by kernel_rfl), (by kernel_rfl)⟩ rfl (fun _ h => range_of_block (h.blk (i := 1) rfl))) ?_; clear HF; intro a HF
    refine fy HF HM 1 rfl rfl rfl (v := .agg ((b.evs.getD k Ev.zero).cells)) (Yl.loadS rfl rfl ⟨(by kernel_rfl), (by kernel_rfl)⟩ rfl (fun _ h => range_of_block (h.blk (i := 0) rfl))) ?_; clear HF; intro a HF
    refine from_op HF (i := 2) rfl rfl ?_
    refine e_call HF (vs := [.agg ((b.atK k).cells), .agg ((b.evs.getD k Ev.zero).cells)]) rfl (by kernel_rfl) (by kernel_rfl) rfl (by decide) (size_is (b.atK k) (b.evs.getD k Ev.zero) (hok.evs _ (getD_mem _ (by omega))) B _ (hL.mem HM hB).laid (HM.le hB) (congrArg List.length hp.2) hp.1) ?_
    rintro _ w47 ⟨rfl, hbw⟩
    refine ⟨_, rfl, ?_⟩
    replace HM := HM.call hbw
    clear HF; intro a HF
    refine fp HF 5 3 [(9, vI 0), (8, vI ((recBytes (b.atK k) (b.evs.getD k Ev.zero)).length)), (49, vI 0), (48, vI ((recBytes (b.atK k) (b.evs.getD k Ev.zero)).length)), (44, .tuple #[vI ((recBytes (b.atK k) (b.evs.getD k Ev.zero)).length), vI 0])] ?_; clear HF; intro a HF
    refine from_done rfl ?_
    refine wp_seq (from_start ?_)
    refine fp HF 3 0 [(52, vI (IntKind.i64.wrap ((b.sz k : Int) + ((recBytes (b.atK k) (b.evs.getD k Ev.zero)).length : Int)))), (51, vI ((recBytes (b.atK k) (b.evs.getD k Ev.zero)).length)), (50, vI (b.sz k))] ?_; clear HF; intro a HF
    replace HF := HF.as (t := 52) (u := vI (b.sz (k + 1))) rfl (i64_nat (by rw [sz_succ (by omega)]; omega) (by omega))
    refine fp HF 1 3 [(5, vI (b.sz (k + 1)))] ?_; clear HF; intro a HF
    refine from_done rfl ?_
    refine wp_seq (wp_seq (from_start ?_))
    refine fp HF 3 0 [(55, vI (IntKind.i64.wrap ((k : Int) + 1))), (54, vI k), (53, vI (b.sz (k + 1)))] ?_; clear HF; intro a HF
    replace HF := HF.as (t := 55) (u := vI (k + 1 : Nat)) rfl (i64_nat (by omega) (by omega))
    refine fp HF 1 3 [(56, vQ (IntKind.u64.wrap ((k + 1 : Nat) : Int)))] ?_; clear HF; intro a HF
    replace HF := HF.as (t := 56) (u := vQ (k + 1 : Nat)) rfl (u64_nat rfl (by omega))
    refine from_op HF (i := 4) rfl rfl ?_
    refine e_call HF (vs := [vQ (k + 1 : Nat)]) rfl (by kernel_rfl) (by kernel_rfl) rfl (by decide) (vsize_any (k + 1) _ (by omega)) ?_
    rintro _ w57 ⟨rfl, hbw⟩
    refine ⟨_, rfl, ?_⟩
    replace HM := HM.call hbw
    clear HF; intro a HF
    refine fp HF 1 5 [(58, vI (IntKind.i64.wrap ((b.sz (k + 1) : Int) + ((vbytes (k + 1)).length : Int))))] ?_; clear HF; intro a HF
    replace HF := HF.as (t := 58) (u := vI (b.sz (k + 1) + ((vbytes (k + 1)).length) : Nat)) rfl (i64_nat (by omega) (by omega))
    refine fp HF 1 6 [(59, .bool (decide (((b.sz (k + 1) + ((vbytes (k + 1)).length) : Nat) : Int) > (4096 : Int))))] ?_; clear HF; intro a HF
    refine from_done rfl ?_
    replace HF := HF.to [(59, .bool (decide (((b.sz (k + 1) + ((vbytes (k + 1)).length) : Nat) : Int) > (4096 : Int)))), (5, vI (b.sz (k + 1))), (8, vI ((recBytes (b.atK k) (b.evs.getD k Ev.zero)).length)), (6, vI k), (7, vP g7 0), (40, .bool true), (39, vI k), (38, vI b.evs.length), (37, .slice (some ⟨gA, oA, none⟩) b.evs.length c), (4, vP g4 0), (16, .bool false), (12, .bool false), (3, vI 0), (2, vI 0), (1, vP g1 0)]
    rcases Bool.eq_false_or_eq_true (decide (((b.sz (k + 1) + ((vbytes (k + 1)).length) : Nat) : Int) > (4096 : Int))) with hb59 | hb59
    ·have HF := HF.on 59 hb59
     have hd59 := of_decide_eq_true hb59
     refine cond_true HF rfl (wp_seq (from_start ?_))
     refine fp HF 3 0 [(3, vI 0), (2, vI k), (60, vI k)] ?_; clear HF; intro a HF
     refine from_done rfl ?_
     refine wp_ret ?_
     exact ret2 rfl HF (.tmp HF rfl) (.tmp HF rfl) (fill_is (by unfold Bk.fill; rw [if_neg (by rw [hf]; decide), fillN_at hk40 hno (by unfold Bk.big; rw [decide_eq_true]; omega)]) HM.below)
    ·have HF := HF.on 59 hb59
     have hd59 := of_decide_eq_false hb59
     refine cond_false HF rfl (wp_skip (from_start ?_))
     refine fp HF 1 0 [(61, vP g7 0)] ?_; clear HF; intro a HF
     refine fy HF HM 1 rfl rfl rfl (v := vI ((b.evs.getD k Ev.zero).seq)) (Yl.load1 rfl rfl (by kernel_rfl) (fun _ h => h.cell (i := 0) rfl (rfl))) ?_; clear HF; intro a HF
     refine fp HF 1 2 [(63, vP g7 1)] ?_; clear HF; intro a HF
     refine fy HF HM 3 rfl rfl rfl (v := vI ((b.evs.getD k Ev.zero).time)) (Yl.load1 rfl rfl (by kernel_rfl) (fun _ h => h.cell (i := 0) rfl (rfl))) ?_; clear HF; intro a HF
     refine fy HF HM 4 rfl rfl rfl (v := .agg #[vI ((b.evs.getD k Ev.zero).seq), vI ((b.evs.getD k Ev.zero).time)]) (Yl.build (vs := [(0, vI ((b.evs.getD k Ev.zero).seq)), (1, vI ((b.evs.getD k Ev.zero).time))]) rfl (by kernel_rfl) (by kernel_rfl)) ?_; clear HF; intro a HF
     refine from_op HF (i := 5) rfl rfl ?_
     refine e_storeAll HF HM (i := 1) (cs := (b.atK k).cells) (ds := #[vI ((b.evs.getD k Ev.zero).seq), vI ((b.evs.getD k Ev.zero).time)]) rfl rfl rfl rfl ⟨(by kernel_rfl), (by kernel_rfl)⟩ rfl rfl (by simp [Value.oneCell']) rfl ?_
     clear HM; intro w14_5 HM
     refine from_done rfl ?_
     refine from_start ?_
     refine fp HF 1 0 [(66, vI (IntKind.i64.wrap ((k : Int) + 1)))] ?_; clear HF; intro a HF
     replace HF := HF.as (t := 66) (u := vI (k + 1 : Nat)) rfl (i64_nat (by omega) (by omega))
     refine fp HF 1 1 [(39, vI (k + 1 : Nat))] ?_; clear HF; intro a HF
     refine from_done rfl ?_
     exact ⟨_, (by omega), k + 1, by omega, fun i hi => (Nat.lt_succ_iff_lt_or_eq.1 hi).elim (hno i) (fun h => by subst h; unfold Bk.big; rw [decide_eq_false]; omega), rfl, HF.sub (by kernel_rfl), HM.picks [1, 2] (by decide) rfl⟩
   ·have HF := HF.on 40 hb40
    have hd40 := of_decide_eq_false hb40
    have hke : k = b.evs.length := by omega
    refine cond_false HF rfl (wp_exit (wp_seq (from_start ?_)))
    refine fp HF 1 0 [(67, vP g1 4)] ?_; clear HF; intro a HF
    refine fy HF HM 1 rfl rfl rfl (v := .slice A b.evs.length c) (Yl.load1 rfl rfl (by kernel_rfl) (fun _ h => h.cell (i := 1) rfl (rfl))) ?_; clear HF; intro a HF
    refine fy HF HM 2 rfl rfl rfl (Yl.len rfl rfl (by kernel_rfl)) ?_; clear HF; intro a HF
    refine fp HF 2 3 [(3, vI 0), (2, vI b.evs.length)] ?_; clear HF; intro a HF
    refine from_done rfl ?_
    refine wp_ret ?_
    exact ret2 rfl HF (.tmp HF rfl) (.tmp HF rfl) (fill_is (by unfold Bk.fill; rw [if_neg (by rw [hf]; decide), fillN_all (fun i hi => hno i (by omega))]) HM.below)
end Go.Proofs.YtnakabnmjnfpcaaDoor

