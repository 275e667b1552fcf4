/- Parts. -/
import Derived.Test.YtfeheccoijnbaaaDoorQfBlkR
import Derived.Test.YtfeheccoijnbaaaDoorQfRef06f
import Derived.Test.YtfeheccoijnbaaaDoorQfRWith
import Derived.Test.YtfeheccoijnbaaaDoorQfDoorE
import Derived.Test.YtfeheccoijnbaaaDoorQfZ1
set_option linter.all false
set_option maxRecDepth 100000
set_option maxHeartbeats 8000000
namespace Go.Proofs.YtfeheccoijnbaaaDoor
open Go.RowKit
theorem qpg (g : Nat) (b : Bk) (hok : b.Ok) (A : Option Addr) (c B : Nat) (w : World) (hL : LaidX B w) (hB : B ≤ w.heap.size) (hr : Rd w w.heap.size 11 A b.evs.length (b.evs.flatMap evL)) (hn : b.evs.length ≤ 1000000) (hb : w.heap[g]? = some (.cells (b.cells A c) 41 (0, 0))) :
    Calls Tryd.prog 61 #[.pointer (some ⟨g, 0, none⟩)] w (Is w (.bool b.qcz)) := by
 refine qh (vs := [vP g 0]) Tryd.func61 rfl rfl (by kernel_rfl) (σ0 := [(0, vP g 0)]) rfl ?_
 intro a HF
 have HM := Mem.start w
 refine wp_seq (qa ?_)
 refine fp HF 1 0 [(1, .bool false)] fun a HF => ?_
 refine qb rfl (wp_seq (wp_seq (qa ?_)))
 refine fp HF 1 0 [(5, vP g 4)] fun a HF => ?_
 refine fy HF HM 1 rfl rfl rfl (v := .slice A b.evs.length c) (Yl.qi rfl rfl (by kernel_rfl) (fun _ h => h.ze hb rfl)) fun a HF => ?_
 refine fo HF 2 rfl rfl ?_
 refine e_cl HF [.slice A b.evs.length c] rfl rfl (qst A b.evs.length c b.evs hok.evs B _ (hL.mem HM hB).laid (HM.le hB) (HM.old hr) (by omega) (i := (rowR b.evs).1) (er := (rowR b.evs).2) rfl) ?_
 rintro _ w7 ⟨rfl, hbw⟩
 refine ⟨_, rfl, ?_⟩
 replace HM := HM.call hbw
 clear HF; intro a HF
 refine fp HF 5 3 [(3, vI ((rowR b.evs).2))] fun a HF => ?_
 refine qb rfl (wp_seq (qa ?_))
 refine fp HF 3 0 [(12, .bool (((rowR b.evs).2 : Int) != (0 : Int)))] fun a HF => ?_
 rcases HF.tf 12 rfl with ⟨hb12, HF⟩ | ⟨hb12, HF⟩
 ·
  have hd12 := bne_iff_ne.1 hb12
  refine fp HF 19 3 [(31, .bool true)] fun a HF => ?_
  refine qb rfl (qf HF rfl (wp_seq (qa ?_)))
  refine fp HF 1 0 [(1, .bool false)] fun a HF => ?_
  refine qb rfl (wp_ret ?_)
  exact ret1 rfl HF (.tmp HF rfl) (⟨by rw [show b.qcz = false from decide_eq_false (by omega)], HM.below⟩)
 have hd12 := bne_eq_false_iff_eq.1 hb12
 refine fp HF 1 3 [(13, vP g 1)] fun a HF => ?_
 refine fy HF HM 4 rfl rfl rfl (v := vB b.cpu) (Yl.qi rfl rfl (by kernel_rfl) (fun _ h => h.ze hb rfl)) fun a HF => ?_
 refine fp HF 3 5 [(17, .bool (decide ((b.cpu : Int) ≥ (64 : Int))))] fun a HF => ?_
 rcases HF.tf 17 rfl with ⟨hb17, HF⟩ | ⟨hb17, HF⟩
 ·
  have hd17 := of_decide_eq_true hb17
  refine fp HF 14 8 [(31, .bool true)] fun a HF => ?_
  refine qb rfl (qf HF rfl (wp_seq (qa ?_)))
  refine fp HF 1 0 [(1, .bool false)] fun a HF => ?_
  refine qb rfl (wp_ret ?_)
  exact ret1 rfl HF (.tmp HF rfl) (⟨by rw [show b.qcz = false from decide_eq_false (by omega)], HM.below⟩)
 have hd17 := of_decide_eq_false hb17
 refine fp HF 1 8 [(18, vP g 2)] fun a HF => ?_
 refine fy HF HM 9 rfl rfl rfl (v := vI b.lost) (Yl.qi rfl rfl (by kernel_rfl) (fun _ h => h.ze hb rfl)) fun a HF => ?_
 refine fp HF 3 10 [(22, .bool (decide ((b.lost : Int) < (0 : Int))))] fun a HF => ?_
 rcases HF.tf 22 rfl with ⟨hb22, HF⟩ | ⟨hb22, HF⟩
 ·
  have hd22 := of_decide_eq_true hb22
  refine fp HF 9 13 [(31, .bool true)] fun a HF => ?_
  refine qb rfl (qf HF rfl (wp_seq (qa ?_)))
  refine fp HF 1 0 [(1, .bool false)] fun a HF => ?_
  refine qb rfl (wp_ret ?_)
  exact ret1 rfl HF (.tmp HF rfl) (⟨by rw [show b.qcz = false from decide_eq_false (by omega)], HM.below⟩)
 have hd22 := of_decide_eq_false hb22
 refine fp HF 1 13 [(23, vP g 2)] fun a HF => ?_
 refine fy HF HM 14 rfl rfl rfl (v := vI b.lost) (Yl.qi rfl rfl (by kernel_rfl) (fun _ h => h.ze hb rfl)) fun a HF => ?_
 refine fp HF 3 15 [(27, .bool (decide ((b.lost : Int) > (281474976710656 : Int))))] fun a HF => ?_
 rcases HF.tf 27 rfl with ⟨hb27, HF⟩ | ⟨hb27, HF⟩
 ·
  have hd27 := of_decide_eq_true hb27
  refine fp HF 4 18 [(31, .bool true)] fun a HF => ?_
  refine qb rfl (qf HF rfl (wp_seq (qa ?_)))
  refine fp HF 1 0 [(1, .bool false)] fun a HF => ?_
  refine qb rfl (wp_ret ?_)
  exact ret1 rfl HF (.tmp HF rfl) (⟨by rw [show b.qcz = false from decide_eq_false (by omega)], HM.below⟩)
 have hd27 := of_decide_eq_false hb27
 refine fp HF 1 18 [(28, vP g 3)] fun a HF => ?_
 refine fy HF HM 19 rfl rfl rfl (v := vI b.next) (Yl.qi rfl rfl (by kernel_rfl) (fun _ h => h.ze hb rfl)) fun a HF => ?_
 refine fp HF 2 20 [(31, .bool ((b.next : Int) != (0 : Int)))] fun a HF => ?_
 refine qb rfl ?_
 rcases HF.tf 31 rfl with ⟨hb31, HF⟩ | ⟨hb31, HF⟩
 ·
  have hd31 := bne_iff_ne.1 hb31
  refine qf HF rfl (wp_seq (qa ?_))
  refine fp HF 1 0 [(1, .bool false)] fun a HF => ?_
  refine qb rfl (wp_ret ?_)
  exact ret1 rfl HF (.tmp HF rfl) (⟨by rw [show b.qcz = false from decide_eq_false (by omega)], HM.below⟩)
 have hd31 := bne_eq_false_iff_eq.1 hb31
 refine qe HF rfl (wp_skip (wp_seq (wp_seq (qa ?_))))
 refine fp HF 1 0 [(32, vP g 4)] fun a HF => ?_
 refine fy HF HM 1 rfl rfl rfl (v := .slice A b.evs.length c) (Yl.qi rfl rfl (by kernel_rfl) (fun _ h => h.ze hb rfl)) fun a HF => ?_
 refine fy HF HM 2 rfl rfl rfl (Yl.len rfl rfl (by kernel_rfl)) fun a HF => ?_
 refine fp HF 1 3 [(35, .bool ((b.evs.length : Int) == (0 : Int)))] fun a HF => ?_
 refine qb rfl ?_
 rcases HF.tf 35 rfl with ⟨hb35, HF⟩ | ⟨hb35, HF⟩
 ·
  have hd35 := eq_of_beq hb35
  refine qf HF rfl (wp_seq (qa ?_))
  refine fp HF 1 0 [(36, vP g 2)] fun a HF => ?_
  refine fy HF HM 1 rfl rfl rfl (v := vI b.lost) (Yl.qi rfl rfl (by kernel_rfl) (fun _ h => h.ze hb rfl)) fun a HF => ?_
  refine fp HF 2 2 [(1, .bool (decide ((b.lost : Int) > (0 : Int))))] fun a HF => ?_
  refine qb rfl (wp_ret ?_)
  exact ret1 rfl HF (.tmp HF rfl) (⟨by rw [Bool.eq_iff_iff.2 (show (decide ((b.lost : Int) > (0 : Int))) = true ↔ b.qcz = true by unfold Bk.qcz; rw [qhd (by omega)]; simp only [decide_eq_true_eq, beq_iff_eq]; omega)], HM.below⟩)
 have hd35 := ne_of_beq_false hb35
 refine qe HF rfl (wp_skip (wp_seq ?_))
 refine qae HM [] [] [] fun HM HS => ?_
 refine ap HF (fun _ => HS) [0, 5] #[true, false, false, false, false, true, false, false, false] [(44, vP g 1), (39, vP g 4)] fun a HF => ?_
 refine ay HF HS 1 rfl rfl rfl (v := .slice A b.evs.length c) (Yl.qi rfl rfl (by kernel_rfl) (fun _ h => h.ze hb rfl)) fun a HF => ?_
 obtain ⟨gA, oA, rfl, _⟩ := hr.qa2 (Nat.lt_of_le_of_lt (Nat.zero_le _) (show 0 < b.evs.length from by omega)) (by decide)
 refine ay HF HS 2 rfl rfl rfl (v := vP gA oA) (Yl.indexAddr (ad := ⟨gA, oA, none⟩) (y := 0) (sz := 11) rfl rfl rfl (by omega) (by kernel_rfl)) fun a HF => ?_
 refine ap HF (fun _ => HS) [3] #[true, true, true, true, false, true, false, false, false] [(42, vP gA (oA + 2))] fun a HF => ?_
 refine ay HF HS 4 rfl rfl rfl (v := vB ((b.evs.getD 0 Ev.zero).cpu)) (Yl.qi rfl rfl (by kernel_rfl) (fun _ h => (h.old hr).partAt zw (k := 0) (j := 2) (x := (b.evs.getD 0 Ev.zero)) ((getD_at Ev.zero (k := 0) (by first | omega | (simp; omega)))) rfl)) fun a HF => ?_
 refine ay HF HS 6 rfl rfl rfl (v := vB b.cpu) (Yl.qi rfl rfl (by kernel_rfl) (fun _ h => h.ze hb rfl)) fun a HF => ?_
 refine ap HF (fun _ => HS) [7, 8] #[true, true, true, true, true, true, true, true, true] [(1, .bool (((b.evs.getD 0 Ev.zero).cpu : Int) == (b.cpu : Int)))] fun a HF => ?_
 refine qn (by kernel_rfl) ?_
 refine wp_ret ?_
 exact ret1 rfl HF (.tmp HF rfl) (⟨by rw [Bool.eq_iff_iff.2 (show (((b.evs.getD 0 Ev.zero).cpu : Int) == (b.cpu : Int)) = true ↔ b.qcz = true by unfold Bk.qcz; rw [qga (by omega)]; simp only [decide_eq_true_eq, beq_iff_eq]; omega)], HM.below⟩)
theorem qph (g : Nat) (b : Bk) (A : Option Addr) (c : Nat) (w : World) (hb : w.heap[g]? = some (.cells (b.cells A c) 41 (0, 0))) :
    Calls Tryd.prog 62 #[.pointer (some ⟨g, 0, none⟩)] w (Is w (.bool b.qgt)) := by
 refine qh (vs := [vP g 0]) Tryd.func62 rfl rfl (by kernel_rfl) (σ0 := [(0, vP g 0)]) rfl ?_
 intro a HF
 have HM := Mem.start w
 refine wp_seq (qa ?_)
 refine fp HF 1 0 [(1, .bool false)] fun a HF => ?_
 refine qb rfl (wp_seq (qa ?_))
 refine fp HF 1 0 [(2, vP g 3)] fun a HF => ?_
 refine fy HF HM 1 rfl rfl rfl (v := vI b.next) (Yl.qi rfl rfl (by kernel_rfl) (fun _ h => h.ze hb rfl)) fun a HF => ?_
 refine fp HF 2 2 [(5, .bool (decide ((b.next : Int) ≥ (1 : Int))))] fun a HF => ?_
 rcases HF.tf 5 rfl with ⟨hb5, HF⟩ | ⟨hb5, HF⟩
 ·
  have hd5 := of_decide_eq_true hb5
  refine fp HF 1 4 [(6, vP g 3)] fun a HF => ?_
  refine fy HF HM 5 rfl rfl rfl (v := vI b.next) (Yl.qi rfl rfl (by kernel_rfl) (fun _ h => h.ze hb rfl)) fun a HF => ?_
  refine fp HF 3 6 [(10, .bool (decide ((b.next : Int) ≤ (281474976710657 : Int))))] fun a HF => ?_
  rcases HF.tf 10 rfl with ⟨hb10, HF⟩ | ⟨hb10, HF⟩
  ·
   have hd10 := of_decide_eq_true hb10
   refine fp HF 1 9 [(11, vP g 1)] fun a HF => ?_
   refine fy HF HM 10 rfl rfl rfl (v := vB b.cpu) (Yl.qi rfl rfl (by kernel_rfl) (fun _ h => h.ze hb rfl)) fun a HF => ?_
   refine fp HF 3 11 [(15, .bool ((b.cpu : Int) == (0 : Int)))] fun a HF => ?_
   rcases HF.tf 15 rfl with ⟨hb15, HF⟩ | ⟨hb15, HF⟩
   ·
    have hd15 := eq_of_beq hb15
    refine fp HF 1 14 [(16, vP g 2)] fun a HF => ?_
    refine fy HF HM 15 rfl rfl rfl (v := vI b.lost) (Yl.qi rfl rfl (by kernel_rfl) (fun _ h => h.ze hb rfl)) fun a HF => ?_
    refine fp HF 3 16 [(20, .bool ((b.lost : Int) == (0 : Int)))] fun a HF => ?_
    rcases HF.tf 20 rfl with ⟨hb20, HF⟩ | ⟨hb20, HF⟩
    ·
     have hd20 := eq_of_beq hb20
     refine fp HF 1 19 [(21, vP g 4)] fun a HF => ?_
     refine fy HF HM 20 rfl rfl rfl (v := .slice A b.evs.length c) (Yl.qi rfl rfl (by kernel_rfl) (fun _ h => h.ze hb rfl)) fun a HF => ?_
     refine fy HF HM 21 rfl rfl rfl (Yl.len rfl rfl (by kernel_rfl)) fun a HF => ?_
     refine fp HF 3 22 [(1, .bool ((b.evs.length : Int) == (0 : Int)))] fun a HF => ?_
     refine qb rfl (wp_ret ?_)
     exact ret1 rfl HF (.tmp HF rfl) (⟨by rw [Bool.eq_iff_iff.2 (show ((b.evs.length : Int) == (0 : Int)) = true ↔ b.qgt = true by unfold Bk.qgt; simp only [decide_eq_true_eq, beq_iff_eq]; omega)], HM.below⟩)
    have hd20 := ne_of_beq_false hb20
    refine fp HF 6 19 [(1, .bool false)] fun a HF => ?_
    refine qb rfl (wp_ret ?_)
    exact ret1 rfl HF (.tmp HF rfl) (⟨by rw [show b.qgt = false from decide_eq_false (by omega)], HM.below⟩)
   have hd15 := ne_of_beq_false hb15
   refine fp HF 11 14 [(1, .bool false)] fun a HF => ?_
   refine qb rfl (wp_ret ?_)
   exact ret1 rfl HF (.tmp HF rfl) (⟨by rw [show b.qgt = false from decide_eq_false (by omega)], HM.below⟩)
  have hd10 := of_decide_eq_false hb10
  refine fp HF 16 9 [(1, .bool false)] fun a HF => ?_
  refine qb rfl (wp_ret ?_)
  exact ret1 rfl HF (.tmp HF rfl) (⟨by rw [show b.qgt = false from decide_eq_false (by omega)], HM.below⟩)
 have hd5 := of_decide_eq_false hb5
 refine fp HF 21 4 [(1, .bool false)] fun a HF => ?_
 refine qb rfl (wp_ret ?_)
 exact ret1 rfl HF (.tmp HF rfl) (⟨by rw [show b.qgt = false from decide_eq_false (by omega)], HM.below⟩)
theorem qdn (b : Bk) (hok : b.Ok) (A : Option Addr) (c B : Nat) (w : World) (hL : LaidX B w) (hB : B ≤ w.heap.size) (hr : Rd w w.heap.size 11 A b.evs.length (b.evs.flatMap evL)) (hn : b.evs.length ≤ 1000000) :
    Calls Tryd.prog 44 #[.agg (b.cells A c)] w (Is w (.bool b.fits)) := by
 refine qh (vs := [.agg (b.cells A c)]) Tryd.func44 rfl rfl (by kernel_rfl) (σ0 := [(0, .agg (b.cells A c))]) rfl ?_
 intro a HF
 have HM := Mem.start w
 refine wp_seq (qa ?_)
 refine fo HF 0 rfl rfl ?_
 refine e_box HF HM (cs := (b.cells A c)) rfl rfl rfl rfl (by decide) ?_
 clear HF HM; intro a w1 g1 HF HM
 refine fp HF 1 1 [(2, .bool false)] fun a HF => ?_
 refine qb rfl (wp_seq (qa ?_))
 refine fo HF 0 rfl rfl ?_
 refine qo2 HF HM rfl rfl (by decide) ?_
 clear HF HM; intro a w5 g5 HF HM
 refine fy HF HM 1 rfl rfl rfl (v := .func (.func 61) #[] #[vP g1 0]) (Yl.makeFunc (fst := []) (caps := [vP g1 0]) rfl rfl rfl) fun a HF => ?_
 refine fo HF 2 rfl rfl ?_
 refine qlu HF HM (i := 0) (kt := 5) (et := 24) (kd := .int .u8) (Or.inr rfl) rfl (by kernel_rfl) (by kernel_rfl) rfl rfl rfl rfl (by first | trivial | rfl) (rfl) ?_
 clear HM; intro w1_2 HM
 refine fy HF HM 3 rfl rfl rfl (v := .func (.func 62) #[] #[vP g1 0]) (Yl.makeFunc (fst := []) (caps := [vP g1 0]) rfl rfl rfl) fun a HF => ?_
 refine fo HF 4 rfl rfl ?_
 refine qlu HF HM (i := 0) (kt := 5) (et := 24) (kd := .int .u8) (Or.inr rfl) rfl (by kernel_rfl) (by kernel_rfl) rfl rfl rfl rfl (by first | trivial | rfl) (rfl) ?_
 clear HM; intro w1_4 HM
 refine fp HF 2 5 [(3, .map (some g5))] fun a HF => ?_
 refine qb rfl ?_
 rcases qu5 b.kind with hk | hk | ⟨hk, hk2⟩
 ·
  refine wp_seq (qa ?_)
  refine fp HF 2 0 [(10, vP g1 0), (9, .map (some g5))] fun a HF => ?_
  refine fy HF HM 2 rfl rfl rfl (v := vB b.kind) (Yl.qi rfl rfl (by kernel_rfl) (fun _ h => h.cell (i := 1) rfl (rfl))) fun a HF => ?_
  refine fy HF HM 3 rfl rfl rfl (v := .func (.func 61) #[] #[vP g1 0]) (Yl.qkj (kt := 5) (et := 24) (kd := .int .u8) (j := 0) (es := (#[].push { key := vB 1, val := .func (.func 61) #[] #[vP g1 0], born := 0 }).push { key := vB 2, val := .func (.func 62) #[] #[vP g1 0], born := 0 + 1 }) (clock := 0 + 1 + 1) rfl (by kernel_rfl) (by kernel_rfl) rfl rfl (fun _ h => h.objAt (i := 0) rfl) (by first | trivial | rfl) (by rw [hk]; rfl)) fun a HF => ?_
  refine fp HF 1 4 [(4, .func (.func 61) #[] #[vP g1 0])] fun a HF => ?_
  refine qb rfl (wp_seq (qa ?_))
  refine fp HF 1 0 [(13, .func (.func 61) #[] #[vP g1 0])] fun a HF => ?_
  refine fy HF HM 1 rfl rfl rfl (v := .bool true) (Yl.qqy rfl rfl rfl (by kernel_rfl)) fun a HF => ?_
  refine fp HF 2 2 [(16, .func (.func 61) #[] #[vP g1 0]), (15, .bool true)] fun a HF => ?_
  refine fo HF 4 rfl rfl ?_
  refine qb7 HF (f := 61) (vs := []) (fst := []) (caps := [vP g1 0]) rfl rfl rfl (by kernel_rfl) rfl (by decide) (qpg _ b hok A c B _ (hL.mem HM hB) (HM.le hB) (HM.old hr) hn (HM.blk (i := 1) rfl)) ?_
  rintro _ w17 ⟨rfl, hbw⟩
  refine ⟨_, rfl, ?_⟩
  replace HM := HM.call hbw
  clear HF; intro a HF
  refine fp HF 2 5 [(2, .bool b.qcz)] fun a HF => ?_
  refine qb rfl (wp_ret ?_)
  replace HM := HM.picks (fs' := [.blk g1 (b.cells A c) 41]) [1] (by decide) rfl
  exact ret1 rfl HF (.tmp HF rfl) (⟨by unfold Bk.fits; rw [if_pos hk], HM.below⟩)
 ·
  refine wp_seq (qa ?_)
  refine fp HF 2 0 [(10, vP g1 0), (9, .map (some g5))] fun a HF => ?_
  refine fy HF HM 2 rfl rfl rfl (v := vB b.kind) (Yl.qi rfl rfl (by kernel_rfl) (fun _ h => h.cell (i := 1) rfl (rfl))) fun a HF => ?_
  refine fy HF HM 3 rfl rfl rfl (v := .func (.func 62) #[] #[vP g1 0]) (Yl.qkj (kt := 5) (et := 24) (kd := .int .u8) (j := 1) (es := (#[].push { key := vB 1, val := .func (.func 61) #[] #[vP g1 0], born := 0 }).push { key := vB 2, val := .func (.func 62) #[] #[vP g1 0], born := 0 + 1 }) (clock := 0 + 1 + 1) rfl (by kernel_rfl) (by kernel_rfl) rfl rfl (fun _ h => h.objAt (i := 0) rfl) (by first | trivial | rfl) (by rw [hk]; rfl)) fun a HF => ?_
  refine fp HF 1 4 [(4, .func (.func 62) #[] #[vP g1 0])] fun a HF => ?_
  refine qb rfl (wp_seq (qa ?_))
  refine fp HF 1 0 [(13, .func (.func 62) #[] #[vP g1 0])] fun a HF => ?_
  refine fy HF HM 1 rfl rfl rfl (v := .bool true) (Yl.qqy rfl rfl rfl (by kernel_rfl)) fun a HF => ?_
  refine fp HF 2 2 [(16, .func (.func 62) #[] #[vP g1 0]), (15, .bool true)] fun a HF => ?_
  refine fo HF 4 rfl rfl ?_
  refine qb7 HF (f := 62) (vs := []) (fst := []) (caps := [vP g1 0]) rfl rfl rfl (by kernel_rfl) rfl (by decide) (qph _ b A c _ (HM.blk (i := 1) rfl)) ?_
  rintro _ w17 ⟨rfl, hbw⟩
  refine ⟨_, rfl, ?_⟩
  replace HM := HM.call hbw
  clear HF; intro a HF
  refine fp HF 2 5 [(2, .bool b.qgt)] fun a HF => ?_
  refine qb rfl (wp_ret ?_)
  replace HM := HM.picks (fs' := [.blk g1 (b.cells A c) 41]) [1] (by decide) rfl
  exact ret1 rfl HF (.tmp HF rfl) (⟨by unfold Bk.fits; rw [if_neg (by omega), if_pos hk], HM.below⟩)
 ·
  refine wp_seq (qa ?_)
  refine fp HF 2 0 [(10, vP g1 0), (9, .map (some g5))] fun a HF => ?_
  refine fy HF HM 2 rfl rfl rfl (v := vB b.kind) (Yl.qi rfl rfl (by kernel_rfl) (fun _ h => h.cell (i := 1) rfl (rfl))) fun a HF => ?_
  refine fy HF HM 3 rfl rfl rfl (v := .nilFunc) (Yl.qn2 (kt := 5) (et := 24) (kd := .int .u8) (es := (#[].push { key := vB 1, val := .func (.func 61) #[] #[vP g1 0], born := 0 }).push { key := vB 2, val := .func (.func 62) #[] #[vP g1 0], born := 0 + 1 }) (clock := 0 + 1 + 1) rfl (by kernel_rfl) (by kernel_rfl) rfl rfl (fun _ h => h.objAt (i := 0) rfl) (by first | trivial | rfl) (by have e1 : ((b.kind : Int) == 1) = false := (by rw [beq_eq_false_iff_ne]; omega); have e2 : ((b.kind : Int) == 2) = false := (by rw [beq_eq_false_iff_ne]; omega); simp [Instr.findNow, Instr.sameNow, e1, e2]) (by kernel_rfl)) fun a HF => ?_
  refine fp HF 1 4 [(4, .nilFunc)] fun a HF => ?_
  refine qb rfl (wp_seq (qa ?_))
  refine fp HF 1 0 [(13, .nilFunc)] fun a HF => ?_
  refine fy HF HM 1 rfl rfl rfl (v := .bool false) (Yl.qvo rfl rfl rfl (by kernel_rfl)) fun a HF => ?_
  refine fp HF 5 2 [(2, .bool false)] fun a HF => ?_
  refine qb rfl (wp_ret ?_)
  replace HM := HM.picks (fs' := [.blk g1 (b.cells A c) 41]) [1] (by decide) rfl
  exact ret1 rfl HF (.tmp HF rfl) (⟨by unfold Bk.fits; rw [if_neg hk, if_neg hk2], HM.below⟩)
theorem ql2 (b : Bk) (A : Option Addr) (c : Nat) (w : World) (hr : Rd w w.heap.size 11 A b.evs.length (b.evs.flatMap evL)) (h0 : b.evs.length ≠ 0) :
    Calls Tryd.prog 56 #[.agg (b.cells A c)] w (Is w (.agg b.base.cells)) := by
 refine qh (vs := [.agg (b.cells A c)]) Tryd.func56 rfl rfl (by kernel_rfl) (σ0 := [(0, .agg (b.cells A c))]) rfl ?_
 intro a HF
 have HM := Mem.start w
 refine wp_seq (qa ?_)
 refine fo HF 0 rfl rfl ?_
 refine e_box HF HM (cs := (b.cells A c)) rfl rfl rfl rfl (by decide) ?_
 clear HF HM; intro a w1 g1 HF HM
 refine fo HF 1 rfl rfl ?_
 refine qp HF HM (cs := #[vI 0, vI 0]) rfl (by kernel_rfl) rfl (by decide) ?_
 clear HF HM; intro a w2 g2 HF HM
 refine qb rfl (wp_seq ?_)
 refine qae HM [.blk g2 #[vI 0, vI 0] 26, .blk g1 (b.cells A c) 41] [0, 1] [11] fun HM HS => ?_
 refine ap HF (fun _ => HS) [0, 5] #[true, false, false, false, false, true, false, false, false, false, false, false] [(8, vP g1 4), (3, vP g1 4)] fun a HF => ?_
 refine ay HF HS 1 rfl rfl rfl (v := .slice A b.evs.length c) (Yl.qi rfl rfl (by kernel_rfl) (fun _ h => h.cell (i := 1) rfl (rfl))) fun a HF => ?_
 obtain ⟨gA, oA, rfl, _⟩ := hr.qa2 (Nat.lt_of_le_of_lt (Nat.zero_le _) (show 0 < b.evs.length from by omega)) (by decide)
 refine ay HF HS 2 rfl rfl rfl (v := vP gA oA) (Yl.indexAddr (ad := ⟨gA, oA, none⟩) (y := 0) (sz := 11) rfl rfl rfl (by omega) (by kernel_rfl)) fun a HF => ?_
 refine ap HF (fun _ => HS) [3] #[true, true, true, true, false, true, false, false, false, false, false, false] [(6, vP gA oA)] fun a HF => ?_
 refine ay HF HS 4 rfl rfl rfl (v := vI ((b.evs.getD 0 Ev.zero).seq)) (Yl.qi rfl rfl (by kernel_rfl) (fun _ h => (by have := (h.old hr).partAt zw (k := 0) (j := 0) (x := (b.evs.getD 0 Ev.zero)) ((getD_at Ev.zero (k := 0) (by first | omega | (simp; omega)))) rfl; simpa using this))) fun a HF => ?_
 refine ay HF HS 6 rfl rfl rfl (v := .slice (some ⟨gA, oA, none⟩) b.evs.length c) (Yl.qi rfl rfl (by kernel_rfl) (fun _ h => h.cell (i := 1) rfl (rfl))) fun a HF => ?_
 refine ay HF HS 7 rfl rfl rfl (v := vP gA oA) (Yl.indexAddr (ad := ⟨gA, oA, none⟩) (y := 0) (sz := 11) rfl rfl rfl (by omega) (by kernel_rfl)) fun a HF => ?_
 refine ap HF (fun _ => HS) [8] #[true, true, true, true, true, true, true, true, true, false, false, false] [(11, vP gA (oA + 1))] fun a HF => ?_
 refine ay HF HS 9 rfl rfl rfl (v := vI ((b.evs.getD 0 Ev.zero).time)) (Yl.qi rfl rfl (by kernel_rfl) (fun _ h => (h.old hr).partAt zw (k := 0) (j := 1) (x := (b.evs.getD 0 Ev.zero)) ((getD_at Ev.zero (k := 0) (by first | omega | (simp; omega)))) rfl)) fun a HF => ?_
 refine ay HF HS 10 rfl rfl rfl (v := .agg #[vI ((b.evs.getD 0 Ev.zero).seq), vI ((b.evs.getD 0 Ev.zero).time)]) (Yl.build (vs := [(0, vI ((b.evs.getD 0 Ev.zero).seq)), (1, vI ((b.evs.getD 0 Ev.zero).time))]) rfl (by kernel_rfl) (by kernel_rfl)) fun a HF => ?_
 refine qg [11] (by kernel_rfl) rfl ?_
 refine all_cons ?_ all_nil
 refine qj HF (i := 11) rfl rfl ?_
 refine e_sa HF HM 0 rfl rfl rfl rfl rfl ⟨(by kernel_rfl), (by kernel_rfl)⟩ rfl rfl (by simp [Value.oneCell']) ?_
 clear HM; intro w1_11 HM
 refine noS (by kernel_rfl) ?_
 refine qn (by kernel_rfl) ?_
 replace HM := HM.picks (fs' := [.blk g2 #[vI ((b.evs.getD 0 Ev.zero).seq), vI ((b.evs.getD 0 Ev.zero).time)] 26]) [0] (by decide) rfl
 refine wp_ret ?_
 exact ret1 rfl HF (.cellS (i := 0) HF HM rfl rfl ⟨(by kernel_rfl), (by kernel_rfl)⟩ rfl) (⟨by rw [qpc]; rfl, HM.below⟩)
theorem qe9 (x : Nat) (hx : x < 18446744073709551616) (w : World) :
    Calls Tryd.prog 63 #[.int .u64 (x : Int)] w (qaf w (vbytes x)) := by
 refine qh (vs := [vQ x]) Tryd.func63 rfl rfl (by kernel_rfl) (σ0 := [(0, vQ x)]) rfl ?_
 intro a HF
 have HM := Mem.start w
 refine wp_seq (qa ?_)
 refine fp HF 1 0 [(2, .slice none 0 0)] fun a HF => ?_
 refine qb rfl (wp_seq (qa ?_))
 refine fp HF 1 0 [(3, vQ x)] fun a HF => ?_
 refine fo HF 1 rfl rfl ?_
 refine e_cl HF [.slice none 0 0, vQ x] rfl rfl (qm2 hx) ?_
 rintro _ w4 ⟨⟨A4, c4, rfl, ho, hc4⟩, hbw⟩
 refine ⟨_, rfl, ?_⟩
 replace HM := HM.callRow hbw ho
 clear HF; intro a HF
 refine fp HF 1 2 [(2, .slice A4 ((vbytes x).length) c4)] fun a HF => ?_
 refine qb rfl (wp_ret ?_)
 exact ret1 rfl HF (.tmp HF rfl) (⟨⟨_, _, rfl, HM.own (i := 0) rfl, hc4⟩, HM.below⟩)
theorem all4 {w : World} {a b c d : Part} (ha : Rd w w.heap.size 1 a.A a.l.length (a.l.map B8)) (hb : Rd w w.heap.size 1 b.A b.l.length (b.l.map B8)) (hc : Rd w w.heap.size 1 c.A c.l.length (c.l.map B8)) (hd : Rd w w.heap.size 1 d.A d.l.length (d.l.map B8)) : ∀ p ∈ [a, b, c, d], Rd w w.heap.size 1 p.A p.l.length (p.l.map B8) := by
 intro p hp
 simp only [List.mem_cons, List.not_mem_nil, or_false] at hp
 rcases hp with rfl | rfl | rfl | rfl
 ·exact ha
 ·exact hb
 ·exact hc
 ·exact hd
theorem qrs (b : Bk) (hok : b.Ok) (A : Option Addr) (c B : Nat) (w : World) (hL : LaidX B w) (hB : B ≤ w.heap.size) (hr : Rd w w.heap.size 11 A b.evs.length (b.evs.flatMap evL)) (hn : b.evs.length ≤ 1000000) (hf : b.fits = true) :
    Calls Tryd.prog 45 #[.agg (b.cells A c)] w (qaf w b.body) := by
 have hcpu := hok.cpu
 refine qh (vs := [.agg (b.cells A c)]) Tryd.func45 rfl rfl (by kernel_rfl) (σ0 := [(0, .agg (b.cells A c))]) rfl ?_
 intro a HF
 have HM := Mem.start w
 refine wp_seq (qa ?_)
 refine fo HF 0 rfl rfl ?_
 refine e_box HF HM (cs := (b.cells A c)) rfl rfl rfl rfl (by decide) ?_
 clear HF HM; intro a w1 g1 HF HM
 refine fp HF 1 1 [(2, .slice none 0 0)] fun a HF => ?_
 refine qb rfl (wp_seq (wp_seq (qa ?_)))
 refine fp HF 1 0 [(7, vP g1 0)] fun a HF => ?_
 refine fy HF HM 1 rfl rfl rfl (v := vB b.kind) (Yl.qi rfl rfl (by kernel_rfl) (fun _ h => h.cell (i := 0) rfl (rfl))) fun a HF => ?_
 refine fp HF 1 2 [(9, .bool ((b.kind : Int) == (2 : Int)))] fun a HF => ?_
 refine qb rfl ?_
 rcases HF.tf 9 rfl with ⟨hb9, HF⟩ | ⟨hb9, HF⟩
 ·
  have hd9 := eq_of_beq hb9
  have hk : b.kind = 2 := by omega
  obtain ⟨n1, n2, n3, n4, n5⟩ := qjj hf hk
  refine qf HF rfl (wp_seq (qa ?_))
  refine fp HF 1 0 [(10, vP g1 3)] fun a HF => ?_
  refine fy HF HM 1 rfl rfl rfl (v := vI b.next) (Yl.qi rfl rfl (by kernel_rfl) (fun _ h => h.cell (i := 0) rfl (rfl))) fun a HF => ?_
  refine fp HF 1 2 [(12, vQ (IntKind.u64.wrap b.next))] fun a HF => ?_
  replace HF := HF.sp 12 (vQ b.next.toNat) rfl (qap (by omega) (by omega))
  refine fo HF 3 rfl rfl ?_
  refine e_cl HF [vQ b.next.toNat] rfl rfl (qe9 b.next.toNat (by omega) _) ?_
  rintro _ w13 ⟨⟨A13, c13, rfl, ho, hc13⟩, hbw⟩
  refine ⟨_, rfl, ?_⟩
  replace HM := HM.callRow hbw ho
  clear HF; intro a HF
  refine fp HF 1 4 [(2, .slice A13 ((vbytes b.next.toNat).length) c13)] fun a HF => ?_
  refine qb rfl (wp_ret ?_)
  exact ret1 rfl HF (.tmp HF rfl) (qaf.as ⟨⟨_, _, rfl, HM.own (i := 0) rfl, hc13⟩, HM.below⟩ (by unfold Bk.body; rw [if_pos hk]))
 have hd9 := ne_of_beq_false hb9
 have hk : b.kind ≠ 2 := by omega
 obtain ⟨m0, m1, m2, m3, m4⟩ := qji hf hk
 refine qe HF rfl (wp_skip (wp_seq (qa ?_)))
 refine fp HF 1 0 [(14, vP g1 1)] fun a HF => ?_
 refine fy HF HM 1 rfl rfl rfl (v := vB b.cpu) (Yl.qi rfl rfl (by kernel_rfl) (fun _ h => h.cell (i := 0) rfl (rfl))) fun a HF => ?_
 refine fp HF 1 2 [(16, vQ (IntKind.u64.wrap (b.cpu : Int)))] fun a HF => ?_
 replace HF := HF.sp 16 (vQ b.cpu) rfl (qap rfl (by omega))
 refine fp HF 1 3 [(17, vP g1 2)] fun a HF => ?_
 refine fy HF HM 4 rfl rfl rfl (v := vI b.lost) (Yl.qi rfl rfl (by kernel_rfl) (fun _ h => h.cell (i := 0) rfl (rfl))) fun a HF => ?_
 refine fp HF 1 5 [(19, vQ (IntKind.u64.wrap b.lost))] fun a HF => ?_
 replace HF := HF.sp 19 (vQ b.lost.toNat) rfl (qap (by omega) (by omega))
 refine fp HF 1 6 [(20, vP g1 4)] fun a HF => ?_
 refine fy HF HM 7 rfl rfl rfl (v := .slice A b.evs.length c) (Yl.qi rfl rfl (by kernel_rfl) (fun _ h => h.cell (i := 0) rfl (rfl))) fun a HF => ?_
 refine fy HF HM 8 rfl rfl rfl (Yl.len rfl rfl (by kernel_rfl)) fun a HF => ?_
 refine fp HF 1 9 [(23, vQ (IntKind.u64.wrap (b.evs.length : Int)))] fun a HF => ?_
 replace HF := HF.sp 23 (vQ b.evs.length) rfl (qap rfl (by omega))
 refine fo HF 10 rfl rfl ?_
 refine zo HF HM (vs := [(0, vQ b.cpu), (1, vQ b.lost.toNat), (2, vQ b.evs.length)]) (cs := #[vQ b.cpu, vQ b.lost.toNat, vQ b.evs.length]) rfl qit (by decide) rfl (by kernel_rfl) rfl (by decide) ?_
 clear HF HM; intro a w24 g24 HF HM
 refine fo HF 11 rfl rfl ?_
 refine e_cl HF [vS g24 3 3] rfl rfl (qpb _ 3 _ [b.cpu, b.lost.toNat, b.evs.length] _ (HM.rdBlk (i := 0) (n := 3) (size := 1) rfl rfl) (by intro x hx; simp only [List.mem_cons, List.not_mem_nil, or_false] at hx; omega) (by omega)) ?_
 rintro _ w25 ⟨⟨A25, c25, rfl, ho, hc25⟩, hbw⟩
 refine ⟨_, rfl, ?_⟩
 replace HM := HM.callRow hbw ho
 clear HF; intro a HF
 refine fp HF 1 12 [(3, .slice A25 (([b.cpu, b.lost.toNat, b.evs.length].flatMap vbytes).length) c25)] fun a HF => ?_
 refine qb rfl (wp_seq (wp_seq (qa ?_)))
 refine fp HF 1 0 [(26, vP g1 4)] fun a HF => ?_
 refine fy HF HM 1 rfl rfl rfl (v := .slice A b.evs.length c) (Yl.qi rfl rfl (by kernel_rfl) (fun _ h => h.cell (i := 2) rfl (rfl))) fun a HF => ?_
 refine fy HF HM 2 rfl rfl rfl (Yl.len rfl rfl (by kernel_rfl)) fun a HF => ?_
 refine fp HF 1 3 [(29, .bool ((b.evs.length : Int) == (0 : Int)))] fun a HF => ?_
 refine qb rfl ?_
 rcases HF.tf 29 rfl with ⟨hb29, HF⟩ | ⟨hb29, HF⟩
 ·
  have hd29 := eq_of_beq hb29
  refine qf HF rfl (wp_seq (qa ?_))
  refine fp HF 2 0 [(2, .slice A25 (([b.cpu, b.lost.toNat, b.evs.length].flatMap vbytes).length) c25)] fun a HF => ?_
  refine qb rfl (wp_ret ?_)
  replace HM := HM.picks (fs' := [.row (.slice A25 (([b.cpu, b.lost.toNat, b.evs.length].flatMap vbytes).length) c25) (([b.cpu, b.lost.toNat, b.evs.length].flatMap vbytes).length) (([b.cpu, b.lost.toNat, b.evs.length].flatMap vbytes).map B8) 5 1, .blk g1 (b.cells A c) 41]) [0, 2] (by decide) rfl
  exact ret1 rfl HF (.tmp HF rfl) (qaf.as ⟨⟨_, _, rfl, HM.own (i := 0) rfl, hc25⟩, HM.below⟩ (by unfold Bk.body; rw [if_neg hk, if_pos (by omega)]; simp))
 have hd29 := ne_of_beq_false hb29
 have hw := qm0 hok (qfo hf hk).2 (by omega)
 obtain ⟨q1, q2, q3, q4⟩ := qlz hok hf hk (by omega)
 refine qe HF rfl (wp_skip (wp_seq (qa ?_)))
 refine fy HF HM 0 rfl rfl rfl (v := .agg (b.cells A c)) (Yl.zg rfl rfl si_bk rfl (fun _ h => qd (h.blk (i := 2) rfl))) fun a HF => ?_
 refine fo HF 1 rfl rfl ?_
 refine e_is HF HM [.agg (b.cells A c)] (.agg b.base.cells) rfl rfl (ql2 b A c _ (HM.old hr) (by omega)) fun w32 hbw HM a HF => ?_
 refine fo HF 2 rfl rfl ?_
 refine qp HF HM (cs := #[vI 0, vI 0]) rfl (by kernel_rfl) rfl (by decide) ?_
 clear HF HM; intro a w4 g4 HF HM
 refine fo HF 3 rfl rfl ?_
 refine e_sa HF HM 0 rfl rfl rfl rfl rfl ⟨(by kernel_rfl), (by kernel_rfl)⟩ rfl rfl (qsm b.base) ?_
 clear HM; intro w6_3 HM
 refine qb rfl (wp_seq (qa ?_))
 refine fy HF HM 0 rfl rfl rfl (v := .agg b.base.cells) (Yl.zg rfl rfl ⟨(by kernel_rfl), (by kernel_rfl)⟩ rfl (fun _ h => qd (h.blk (i := 0) rfl))) fun a HF => ?_
 refine fp HF 1 1 [(35, vP g1 4)] fun a HF => ?_
 refine fy HF HM 2 rfl rfl rfl (v := .slice A b.evs.length c) (Yl.qi rfl rfl (by kernel_rfl) (fun _ h => h.cell (i := 3) rfl (rfl))) fun a HF => ?_
 refine fo HF 3 rfl rfl ?_
 refine e_cl HF [.agg b.base.cells, .slice A b.evs.length c] rfl rfl (qrh b.base A b.evs.length c b.evs hok.evs B _ (hL.mem HM hB).laid (HM.le hB) (HM.old hr) (by omega) hw.1 hw.2) ?_
 rintro _ w37 ⟨⟨A37, c37, rfl, ho, hc37⟩, hbw⟩
 refine ⟨_, rfl, ?_⟩
 replace HM := HM.callRow hbw ho
 clear HF; intro a HF
 refine fp HF 5 4 [(5, .slice A37 ((recs b.base b.evs).length) c37)] fun a HF => ?_
 refine qb rfl (wp_seq ?_)
 refine qae HM [.row (.slice A37 ((recs b.base b.evs).length) c37) ((recs b.base b.evs).length) ((recs b.base b.evs).map B8) 5 1, .blk g4 b.base.cells 26, .row (.slice A25 (([b.cpu, b.lost.toNat, b.evs.length].flatMap vbytes).length) c25) (([b.cpu, b.lost.toNat, b.evs.length].flatMap vbytes).length) (([b.cpu, b.lost.toNat, b.evs.length].flatMap vbytes).map B8) 5 1, .blk g24 #[vQ b.cpu, vQ b.lost.toNat, vQ b.evs.length] 43, .blk g1 (b.cells A c) 41] [0, 1, 2, 3, 4] [] fun HM HS => ?_
 refine ap HF (fun _ => HS) [0, 1, 5, 9] #[true, true, false, false, false, true, false, false, false, true, false, false, false] [(49, .slice A37 ((recs b.base b.evs).length) c37), (45, vP g4 1), (41, vP g4 0), (40, .slice A25 (([b.cpu, b.lost.toNat, b.evs.length].flatMap vbytes).length) c25)] fun a HF => ?_
 refine ay HF HS 2 rfl rfl rfl (v := vI b.base.seq) (Yl.qi rfl rfl (by kernel_rfl) (fun _ h => h.cell (i := 1) rfl (rfl))) fun a HF => ?_
 refine qo HF (fun _ => HS) (i := 3) rfl rfl (d := 43) rfl (by decide) (by kernel_rfl) (fun _ _ _ h => h) (v := vQ (IntKind.u64.wrap b.base.seq)) (fun _ => Yl.pure (by kernel_rfl)) fun a HF => ?_
 replace HF := HF.sp 43 (vQ b.base.seq.toNat) rfl (qap (by omega) (by omega))
 refine ay HF HS 6 rfl rfl rfl (v := vI b.base.time) (Yl.qi rfl rfl (by kernel_rfl) (fun _ h => h.cell (i := 1) rfl (rfl))) fun a HF => ?_
 refine qo HF (fun _ => HS) (i := 7) rfl rfl (d := 47) rfl (by decide) (by kernel_rfl) (fun _ _ _ h => h) (v := vQ (IntKind.u64.wrap b.base.time)) (fun _ => Yl.pure (by kernel_rfl)) fun a HF => ?_
 replace HF := HF.sp 47 (vQ b.base.time.toNat) rfl (qap (by omega) (by omega))
 refine qg [4] (by kernel_rfl) rfl ?_
 refine all_cons ?_ all_nil
 refine qj HF (i := 4) rfl rfl ?_
 refine e_cl HF [vQ b.base.seq.toNat] rfl rfl (qe9 b.base.seq.toNat (by omega) _) ?_
 rintro _ w44 ⟨⟨A44, c44, rfl, ho, hc44⟩, hbw⟩
 refine ⟨_, rfl, ?_⟩
 replace HM := HM.callRow hbw ho
 clear HF; intro a HF
 refine keepS (HM.picks [1, 2, 3, 4, 5] (by decide) rfl) (fun HS => ?_)
 refine qg [8] (by kernel_rfl) rfl ?_
 refine all_cons ?_ all_nil
 refine qj HF (i := 8) rfl rfl ?_
 refine e_cl HF [vQ b.base.time.toNat] rfl rfl (qe9 b.base.time.toNat (by omega) _) ?_
 rintro _ w48 ⟨⟨A48, c48, rfl, ho, hc48⟩, hbw⟩
 refine ⟨_, rfl, ?_⟩
 replace HM := HM.callRow hbw ho
 clear HF; intro a HF
 refine keepS (HM.picks [2, 3, 4, 5, 6] (by decide) rfl) (fun HS => ?_)
 refine qg [10] (by kernel_rfl) rfl ?_
 refine all_cons ?_ all_nil
 refine qj HF (i := 10) rfl rfl ?_
 refine zo HF HM (vs := [(0, .slice A25 (([b.cpu, b.lost.toNat, b.evs.length].flatMap vbytes).length) c25), (1, .slice A44 ((vbytes b.base.seq.toNat).length) c44), (2, .slice A48 ((vbytes b.base.time.toNat).length) c48), (3, .slice A37 ((recs b.base b.evs).length) c37)]) (cs := #[.slice A25 (([b.cpu, b.lost.toNat, b.evs.length].flatMap vbytes).length) c25, .slice A44 ((vbytes b.base.seq.toNat).length) c44, .slice A48 ((vbytes b.base.time.toNat).length) c48, .slice A37 ((recs b.base b.evs).length) c37]) rfl ei_bb (by decide) rfl (by kernel_rfl) rfl (by decide) ?_
 clear HF HM; intro a w50 g50 HF HM
 refine keepS (HM.picks [3, 4, 5, 6, 7] (by decide) rfl) (fun HS => ?_)
 refine qg [11] (by kernel_rfl) rfl ?_
 refine all_cons ?_ all_nil
 refine qj HF (i := 11) rfl rfl ?_
 have hps := all4 (a := ⟨A25, c25, [b.cpu, b.lost.toNat, b.evs.length].flatMap vbytes⟩) (b := ⟨A44, c44, vbytes b.base.seq.toNat⟩) (c := ⟨A48, c48, vbytes b.base.time.toNat⟩) (d := ⟨A37, c37, recs b.base b.evs⟩) (HM.rd (i := 5) rfl) (HM.rd (i := 2) rfl) (HM.rd (i := 1) rfl) (HM.rd (i := 3) rfl)
 refine e_cl HF [vS g50 4 4] rfl rfl ((qm3 _ 4 _ [⟨A25, c25, [b.cpu, b.lost.toNat, b.evs.length].flatMap vbytes⟩, ⟨A44, c44, vbytes b.base.seq.toNat⟩, ⟨A48, c48, vbytes b.base.time.toNat⟩, ⟨A37, c37, recs b.base b.evs⟩] _ (HM.rdBlk (i := 0) (n := 4) (size := 1) rfl rfl) rfl (by omega) hps (by have h1 := qa5 [b.cpu, b.lost.toNat, b.evs.length]; have h2 := qr b.base.seq.toNat; have h3 := qr b.base.time.toNat; have h4 := qfp b.evs b.base; simp only [List.flatMap_cons, List.flatMap_nil, List.length_append, List.append_nil, List.length_cons, List.length_nil] at h1 ⊢; omega)).mono (fun _ _ h => h.as (R' := vbytes b.cpu ++ vbytes b.lost.toNat ++ vbytes b.evs.length ++ (vbytes b.base.seq.toNat ++ vbytes b.base.time.toNat ++ recs b.base b.evs)) (by simp))) ?_
 rintro _ w51 ⟨⟨A51, c51, rfl, ho, hc51⟩, hbw⟩
 refine ⟨_, rfl, ?_⟩
 replace HM := HM.callRow hbw ho
 clear HF; intro a HF
 refine keepS (HM.picks [4, 5, 6, 7, 8] (by decide) rfl) (fun HS => ?_)
 refine ap HF (fun _ => HS) [12] #[true, true, true, true, true, true, true, true, true, true, true, true, true] [(2, .slice A51 ((vbytes b.cpu ++ vbytes b.lost.toNat ++ vbytes b.evs.length ++ (vbytes b.base.seq.toNat ++ vbytes b.base.time.toNat ++ recs b.base b.evs)).length) c51)] fun a HF => ?_
 refine qn (by kernel_rfl) ?_
 replace HF := HF.to [(2, .slice A51 ((vbytes b.cpu ++ vbytes b.lost.toNat ++ vbytes b.evs.length ++ (vbytes b.base.seq.toNat ++ vbytes b.base.time.toNat ++ recs b.base b.evs)).length) c51), (4, vP g4 0), (29, .bool false), (3, .slice A25 (([b.cpu, b.lost.toNat, b.evs.length].flatMap vbytes).length) c25), (9, .bool false), (1, vP g1 0)]
 replace HM := HM.picks (fs' := [.row (.slice A51 ((vbytes b.cpu ++ vbytes b.lost.toNat ++ vbytes b.evs.length ++ (vbytes b.base.seq.toNat ++ vbytes b.base.time.toNat ++ recs b.base b.evs)).length) c51) ((vbytes b.cpu ++ vbytes b.lost.toNat ++ vbytes b.evs.length ++ (vbytes b.base.seq.toNat ++ vbytes b.base.time.toNat ++ recs b.base b.evs)).length) ((vbytes b.cpu ++ vbytes b.lost.toNat ++ vbytes b.evs.length ++ (vbytes b.base.seq.toNat ++ vbytes b.base.time.toNat ++ recs b.base b.evs)).map B8) 5 1, .blk g4 b.base.cells 26, .row (.slice A25 (([b.cpu, b.lost.toNat, b.evs.length].flatMap vbytes).length) c25) (([b.cpu, b.lost.toNat, b.evs.length].flatMap vbytes).length) (([b.cpu, b.lost.toNat, b.evs.length].flatMap vbytes).map B8) 5 1, .blk g1 (b.cells A c) 41]) [0, 5, 6, 8] (by decide) rfl
 refine wp_ret ?_
 exact ret1 rfl HF (.tmp HF rfl) (qaf.as ⟨⟨_, _, rfl, HM.own (i := 0) rfl, hc51⟩, HM.below⟩ (by unfold Bk.body; rw [if_neg hk, if_neg (by omega)]))
instance bkDec : DecidableEq Bk := fun ⟨a0, a1, a2, a3, a4⟩ ⟨b0, b1, b2, b3, b4⟩ =>
 decidable_of_iff (a0 = b0 ∧ a1 = b1 ∧ a2 = b2 ∧ a3 = b3 ∧ a4 = b4) (by simp)
theorem qpi {b : Bk} (h : 8 + b.body.length + 4 ≤ 4096) : (#[Value.int .u8 (((8 + b.body.length + 4) % 256 : Nat) : Int), .int .u8 (((8 + b.body.length + 4) / 256 % 256 : Nat) : Int), .int .u8 0, .int .u8 0, .int .u8 113, .int .u8 116, .int .u8 1, .int .u8 (b.kind : Int)] : Array Value).toList ++ b.body.map B8 = b.raw.map B8 := by
 have e0 : 8 + b.body.length + 4 = 12 + b.body.length := by omega
 have e1 : (12 + b.body.length) / 65536 % 256 = 0 := by omega
 have e2 : (12 + b.body.length) / 16777216 % 256 = 0 := by omega
 unfold Bk.raw le4
 rw [e0, e1, e2]
 simp [B8]
theorem qbu (x : Nat) : ∀ b ∈ vbytes x, b < 256 := by
 intro b hb
 unfold vbytes at hb
 obtain ⟨p, hp, rfl⟩ := List.mem_map.1 hb
 have := qoc 10 x p hp
 unfold vbyte
 split <;> omega
theorem qk2 {b : Bs} {e : Ev} (h : e.kind < 256) : ∀ x ∈ zi b e, x < 256 := by
 intro x hx
 unfold zi at hx
 rcases List.mem_cons.1 hx with rfl | hx
 ·exact h
 ·obtain ⟨y, _, hy⟩ := List.mem_flatMap.1 hx
  exact qbu y x hy
theorem qpj : ∀ (l : List Ev) (b : Bs), (∀ e ∈ l, e.Ok) → ∀ x ∈ recs b l, x < 256
 | [], _, _, x, hx => by simp [recs] at hx
 | e :: r, b, hok, x, hx => by
  rw [recs] at hx
  rcases List.mem_append.1 hx with h | h
  ·exact qk2 (hok e (by simp)).kind x h
  ·exact qpj r e.at (fun y hy => hok y (by simp [hy])) x h
theorem qtq {b : Bk} (hok : b.Ok) : ∀ x ∈ b.body, x < 256 := by
 intro x hx
 unfold Bk.body at hx
 split at hx
 ·exact qbu _ x hx
 ·rcases List.mem_append.1 hx with h | h
  ·rcases List.mem_append.1 h with h | h
   ·rcases List.mem_append.1 h with h | h
    ·exact qbu _ x h
    ·exact qbu _ x h
   ·exact qbu _ x h
  ·split at h
   ·cases h
   ·rcases List.mem_append.1 h with h | h
    ·rcases List.mem_append.1 h with h | h
     ·exact qbu _ x h
     ·exact qbu _ x h
    ·exact qpj _ _ hok.evs x h
theorem qu8 {b : Bk} (hok : b.Ok) : ∀ x ∈ b.raw, x < 256 := by
 intro x hx
 unfold Bk.raw at hx
 rcases List.mem_append.1 hx with h | h
 ·rcases List.mem_append.1 h with h | h
  ·exact qu7 _ x h
  ·simp only [List.mem_cons, List.not_mem_nil, or_false] at h
   have := hok.kind
   omega
 ·exact qtq hok x h
theorem qhf (b : Bk) : b.raw.length = 8 + b.body.length := by unfold Bk.raw le4; simp; omega
theorem qgb (b : Bk) : b.body.length ≤ 50 + 61 * b.evs.length := by
 unfold Bk.body
 split
 ·have := qr b.next.toNat; omega
 ·have h1 := qr b.cpu
  have h2 := qr b.lost.toNat
  have h3 := qr b.evs.length
  have h4 := qr b.base.seq.toNat
  have h5 := qr b.base.time.toNat
  have h6 := qfp b.evs b.base
  split <;> simp only [List.length_append, List.length_nil] <;> omega
theorem qsx {w w' : World} {b : Bk} {er : Nat} (h : b.err = er) (he : er ≠ 0) (hb : Below w.heap.size w w') : qaz w b.err b.out (.returned (.tuple #[.slice none 0 0, .int .i64 (er : Int)])) w' := by
 have h2 : b.out = [] := by unfold Bk.out; rw [if_neg (by omega)]
 rw [h, h2]
 exact ⟨⟨none, 0, rfl, World.ownsRow_nil _ _ _ _, Nat.le_refl _⟩, hb⟩
theorem qsy {b : Bk} (h : b.err = 0) : b.out = sealL b.raw := by unfold Bk.out; rw [if_pos h]
theorem qpk (b : Bk) : b.out.length ≤ 4096 := by
 unfold Bk.out
 split
 ·rename_i h
  unfold Bk.err at h
  split at h
  ·cases h
  ·split at h
   ·cases h
   ·rw [ql0, qhf]; omega
 ·simp
theorem qcy (most : Nat) (l : List Nat) : tkVal most l ≤ most := by unfold tkVal; split <;> omega
theorem qgc (most : Nat) (l : List Nat) : (if ((most : Nat) : Int) < (((vread l).1 : Nat) : Int) then ((most : Nat) : Int) else (((vread l).1 : Nat) : Int)) = ((tkVal most l : Nat) : Int) := by unfold tkVal; split <;> split <;> omega
theorem qdo (l : List Nat) : (qc l).length = l.length - (vread l).2.1 := by unfold qc; rw [List.length_drop]
theorem qcj (l : List Nat) : (qc l).length ≤ l.length := by rw [qdo]; omega
theorem qm9 {most : Nat} {l : List Nat} (h : (vread l).2.2 ≠ 0) : tkOk most l = false := by unfold tkOk; rw [decide_eq_false]; omega
def qsz (W : World) (gb gk : Nat) (l : List Nat) (okb : Bool) (most : Nat) (fr : List Fact) (r : Ending) (w' : World) : Prop :=
 r = .returned (.int .i64 ((tkVal most l : Nat) : Int)) ∧ ∃ A' c', Rd W W.heap.size 1 A' (qc l).length ((qc l).map B8) ∧ (qc l).length ≤ c' ∧
  Mem W w' (.blk gb #[.slice A' (qc l).length c'] 54 :: .blk gk #[.bool (okb && tkOk most l)] 4 :: fr)
theorem qgd {W w' : World} {gb gk n c most : Nat} {l : List Nat} {okb ok2 : Bool} {A : Option Addr} {fr : List Fact} (hr : Rd W W.heap.size 1 A l.length (l.map B8)) (hc : l.length ≤ c) (h2 : (okb && tkOk most l) = ok2) (hn : n = l.length)
  (HM : Mem W w' (.blk gb #[.slice (if c = (vread l).2.1 then A else A.map (·.add ((vread l).2.1 * 1))) (n - (vread l).2.1) (c - (vread l).2.1)] 54 :: .blk gk #[.bool ok2] 4 :: fr)) :
  qsz W gb gk l okb most fr (.returned (.int .i64 ((tkVal most l : Nat) : Int))) w' := by
 subst h2; subst hn
 refine ⟨rfl, (if c = (vread l).2.1 then A else A.map (·.add ((vread l).2.1 * 1))), c - (vread l).2.1, ?_, ?_, ?_⟩
 ·rw [qdo]
  exact hr.qmm (qcb l) hc
 ·rw [qdo]; omega
 ·rw [qdo]; exact HM
def qd2 (w : World) (q : Option Bk) (r : Ending) (w' : World) : Prop :=
 (∃ cs : Array Value, r = .returned (.tuple #[.agg cs, .bool q.isSome]) ∧ cs.size = 5 ∧ (∀ v ∈ cs.toList, v.oneCell' = true) ∧
  (∀ b, q = some b → ∃ A c, cs = b.cells A c ∧ w'.ownsRow w.heap.size 45 11 (.slice A b.evs.length c) b.evs.length (b.evs.flatMap evL) ∧ b.evs.length ≤ c)) ∧ Below w.heap.size w w'
theorem qbg {w w' : World} {q : Option Bk} {cs : Array Value} (h : q = none) (hs : cs.size = 5) (h1 : ∀ v ∈ cs.toList, v.oneCell' = true) (hb : Below w.heap.size w w') : qd2 w q (.returned (.tuple #[.agg cs, .bool false])) w' := by
 subst h
 exact ⟨⟨cs, rfl, hs, h1, fun b h => by cases h⟩, hb⟩
theorem qb5 {w w' : World} {q : Option Bk} {b : Bk} {A : Option Addr} {c : Nat} (h : q = some b) (ho : w'.ownsRow w.heap.size 45 11 (.slice A b.evs.length c) b.evs.length (b.evs.flatMap evL)) (hc : b.evs.length ≤ c) (hb : Below w.heap.size w w') : qd2 w q (.returned (.tuple #[.agg (b.cells A c), .bool true])) w' := by
 subst h
 exact ⟨⟨_, rfl, rfl, qb4 _ _ _, fun b' h => by injection h with h; subst h; exact ⟨A, c, rfl, ho, hc⟩⟩, hb⟩
theorem tk3 {l : List Nat} : (((true && tkOk 63 l) && tkOk 281474976710656 (qc l)) && tkOk 4096 (qc (qc l))) = qci l := by unfold qci; simp
theorem qhg (l : List Nat) : qdv 2 l = qan l := by unfold qdv; rw [if_pos rfl]
theorem qa8 (l : List Nat) : qdv 1 l = zd l := by unfold qdv; rw [if_neg (by omega)]
theorem endOk {x : Nat} (h : x ≤ 281474976710657) : Bk.Ok ⟨2, 0, 0, (x : Int), []⟩ := ⟨by show 2 < 256; decide, by show 0 < 256; decide, by unfold I64; simp, qdc h, by simp⟩
theorem evsOk {cpu lost : Nat} {es : List Ev} (h : cpu < 256) (hl : lost ≤ 281474976710656) (he : ∀ e ∈ es, e.Ok) : Bk.Ok ⟨1, cpu, (lost : Int), 0, es⟩ := ⟨by show 1 < 256; decide, h, qdc (by show lost ≤ _; omega), by unfold I64; simp, he⟩
theorem qen {l : List Nat} {q : List Ev × Nat × Nat} (h3 : qci l = true) (h0 : 0 < tkVal 4096 (qc (qc l)))
  (hq : readR ⟨(tkVal 281474976710656 (qc (qc (qc l))) : Int), (tkVal 281474976710656 (qc (qc (qc (qc l)))) : Int)⟩ (tkVal 63 l) (tkVal 4096 (qc (qc l)) : Int) (qc (qc (qc (qc (qc l))))) = q) :
  zd l = qab (tkVal 63 l) (tkVal 281474976710656 (qc l)) (qc (qc (qc l))) q := by
 unfold zd
 rw [if_pos ⟨h3, h0⟩, hq]
theorem qdw {cpu lost : Nat} {l : List Nat} {q : List Ev × Nat × Nat} (h : ¬ (q.2.2 = 0 ∧ (q.1.getD 0 Ev.zero).seq = (tkVal 281474976710656 l : Int) ∧ (q.1.getD 0 Ev.zero).time = (tkVal 281474976710656 (qc l) : Int) ∧ tkOk 281474976710656 l = true ∧ tkOk 281474976710656 (qc l) = true ∧ (qc (qc l)).length - q.2.1 = 0 ∧ Bk.fits ⟨1, cpu, lost, 0, q.1⟩ = true)) : qab cpu lost l q = none := by
 unfold qab
 rw [if_neg]
 intro hh
 obtain ⟨h1, h2, h3, h4, h5, h6, h7⟩ := hh
 rw [List.length_drop] at h6
 have e : q.1.headD Ev.zero = q.1.getD 0 Ev.zero := by cases q.1 <;> rfl
 rw [e] at h2 h3
 exact h ⟨h1, h2, h3, h4, h5, h6, h7⟩
theorem qgy {cpu lost : Nat} {l : List Nat} {q : List Ev × Nat × Nat} (h : q.2.2 = 0 ∧ (q.1.getD 0 Ev.zero).seq = (tkVal 281474976710656 l : Int) ∧ (q.1.getD 0 Ev.zero).time = (tkVal 281474976710656 (qc l) : Int) ∧ tkOk 281474976710656 l = true ∧ tkOk 281474976710656 (qc l) = true ∧ (qc (qc l)).length - q.2.1 = 0 ∧ Bk.fits ⟨1, cpu, lost, 0, q.1⟩ = true) : qab cpu lost l q = some ⟨1, cpu, lost, 0, q.1⟩ := by
 unfold qab
 rw [if_pos]
 obtain ⟨h1, h2, h3, h4, h5, h6, h7⟩ := h
 have e : q.1.headD Ev.zero = q.1.getD 0 Ev.zero := by cases q.1 <;> rfl
 rw [e, List.length_drop]
 exact ⟨h1, h2, h3, h4, h5, h6, h7⟩
theorem qd3 (l : List Nat) : (qan l).isSome = (tkOk 281474976710657 l && (decide ((qc l).length = 0) && Bk.fits ⟨2, 0, 0, (tkVal 281474976710657 l : Int), []⟩)) := by
 unfold qan
 split
 ·rename_i h; rw [h.1, decide_eq_true h.2.1, h.2.2]; rfl
 ·rename_i h
  show false = _
  rw [eq_comm, Bool.eq_false_iff]
  intro hh
  simp only [Bool.and_eq_true, decide_eq_true_eq] at hh
  exact h ⟨hh.1, hh.2.1, hh.2.2⟩
theorem qjo {l : List Nat} (h : (qan l).isSome = true) : qan l = some ⟨2, 0, 0, (tkVal 281474976710657 l : Int), []⟩ := by
 unfold qan at h ⊢
 split
 ·rfl
 ·rename_i h2; rw [if_neg h2] at h; cases h
theorem ql3 {l : List Nat} (h : ¬ (qci l = true ∧ 0 < tkVal 4096 (qc (qc l)))) : (zd l).isSome = (qci l && (decide ((qc (qc (qc l))).length = 0) && Bk.fits ⟨1, tkVal 63 l, (tkVal 281474976710656 (qc l) : Int), 0, []⟩)) := by
 unfold zd
 rw [if_neg h]
 split
 ·rename_i h; rw [h.1, decide_eq_true h.2.1, h.2.2]; rfl
 ·rename_i h
  show false = _
  rw [eq_comm, Bool.eq_false_iff]
  intro hh
  simp only [Bool.and_eq_true, decide_eq_true_eq] at hh
  exact h ⟨hh.1, hh.2.1, hh.2.2⟩
theorem qpl {l : List Nat} (h : ¬ (qci l = true ∧ 0 < tkVal 4096 (qc (qc l)))) (hs : (zd l).isSome = true) : zd l = some ⟨1, tkVal 63 l, (tkVal 281474976710656 (qc l) : Int), 0, []⟩ := by
 unfold zd at hs ⊢
 rw [if_neg h] at hs ⊢
 split
 ·rfl
 ·rename_i h2; rw [if_neg h2] at hs; cases hs
theorem qk3 {cpu lost L : Nat} {l : List Nat} {es : List Ev} (h : (es.getD 0 Ev.zero).seq = (tkVal 281474976710656 l : Int) ∧ (es.getD 0 Ev.zero).time = (tkVal 281474976710656 (qc l) : Int)) : (qab cpu lost l (es, L, 0)).isSome = ((tkOk 281474976710656 l && tkOk 281474976710656 (qc l)) && (decide ((qc (qc l)).length - L = 0) && Bk.fits ⟨1, cpu, (lost : Int), 0, es⟩)) := by
 cases hc : ((tkOk 281474976710656 l && tkOk 281474976710656 (qc l)) && (decide ((qc (qc l)).length - L = 0) && Bk.fits ⟨1, cpu, (lost : Int), 0, es⟩)) with
 | true =>
  simp only [Bool.and_eq_true, decide_eq_true_eq] at hc
  rw [qgy ⟨rfl, h.1, h.2, hc.1.1, hc.1.2, hc.2.1, hc.2.2⟩]
  rfl
 | false =>
  rw [qdw]
  ·rfl
  ·intro hh
   obtain ⟨h1, h2, h3, h4, h5, h6, h7⟩ := hh
   rw [h4, h5, h7, decide_eq_true h6] at hc
   cases hc
theorem qrt {cpu lost : Nat} {l : List Nat} {q : List Ev × Nat × Nat} (h : (qab cpu lost l q).isSome = true) : qab cpu lost l q = some ⟨1, cpu, (lost : Int), 0, q.1⟩ := by
 unfold qab at h ⊢
 split
 ·rfl
 ·rename_i h2; rw [if_neg h2] at h; cases h
theorem qd2.none {w w' : World} {q : Option Bk} {r : Ending} (h : qd2 w q r w') (hq : q = none) : (∃ cs : Array Value, r = .returned (.tuple #[.agg cs, .bool false]) ∧ cs.size = 5 ∧ (∀ v ∈ cs.toList, v.oneCell' = true)) ∧ Below w.heap.size w w' := by
 subst hq
 obtain ⟨⟨cs, h1, h2, h3, _⟩, h4⟩ := h
 exact ⟨⟨cs, h1, h2, h3⟩, h4⟩
theorem qd2.some {w w' : World} {q : Option Bk} {b : Bk} {r : Ending} (h : qd2 w q r w') (hq : q = some b) : (∃ A c, r = .returned (.tuple #[.agg (b.cells A c), .bool true]) ∧ w'.ownsRow w.heap.size 45 11 (.slice A b.evs.length c) b.evs.length (b.evs.flatMap evL) ∧ b.evs.length ≤ c) ∧ Below w.heap.size w w' := by
 subst hq
 obtain ⟨⟨cs, h1, h2, h3, h5⟩, h4⟩ := h
 obtain ⟨A, c, rfl, h6, h7⟩ := h5 b rfl
 exact ⟨⟨A, c, h1, h6, h7⟩, h4⟩
def qk4 (T : TypeId) (w : World) (q : Bk × Nat × Nat) (r : Ending) (w' : World) : Prop :=
 (∃ A c, r = .returned (.tuple #[.agg (q.1.cells A c), .int .i64 (q.2.1 : Int), .int .i64 (q.2.2 : Int)]) ∧ w'.ownsRow w.heap.size T 11 (.slice A q.1.evs.length c) q.1.evs.length (q.1.evs.flatMap evL) ∧ q.1.evs.length ≤ c) ∧ Below w.heap.size w w'
theorem qah {T : TypeId} {w w' : World} {q : Bk × Nat × Nat} {er : Nat} (h : q = (Bk.zero, 0, er)) (hb : Below w.heap.size w w') : qk4 T w q (.returned (.tuple #[.agg #[.int .u8 0, .int .u8 0, .int .i64 0, .int .i64 0, .slice none 0 0], .int .i64 0, .int .i64 (er : Int)])) w' := by
 subst h
 exact ⟨⟨none, 0, rfl, World.ownsRow_nil _ _ _ _, Nat.le_refl _⟩, hb⟩
theorem qhh {T : TypeId} {w w' : World} {q : Bk × Nat × Nat} {b : Bk} {m c : Nat} {A : Option Addr} (h : q = (b, m, 0)) (ho : w'.ownsRow w.heap.size T 11 (.slice A b.evs.length c) b.evs.length (b.evs.flatMap evL)) (hc : b.evs.length ≤ c) (hb : Below w.heap.size w w') : qk4 T w q (.returned (.tuple #[.agg (b.cells A c), .int .i64 (m : Int), .int .i64 0])) w' := by
 subst h
 exact ⟨⟨A, c, rfl, ho, hc⟩, hb⟩
theorem qpm {l : List Nat} (h : (lenR l).2 ≠ 0) : readB l = (Bk.zero, 0, (lenR l).2) := by unfold readB; rw [if_pos h]
theorem qa9 {l L : List Nat} {e : Nat} (h : (lenR l).2 = 0) (hL : L = l.take (lenR l).1) (hb : blkOf L = (none, e)) : readB l = (Bk.zero, 0, e) := by unfold readB; rw [if_neg (by omega), ← hL, hb]
theorem qhi {l L : List Nat} {b : Bk} {e : Nat} (h : (lenR l).2 = 0) (hL : L = l.take (lenR l).1) (hb : blkOf L = (some b, e)) : readB l = (b, (lenR l).1, 0) := by unfold readB; rw [if_neg (by omega), ← hL, hb]
theorem tk5 {l : List Nat} {m1 m2 m3 m4 m5 : Nat} {a b c d e : List Nat} : (((((true && tkOk m1 a) && tkOk m2 b) && tkOk m3 c) && tkOk m4 d) && tkOk m5 e) = ((((true && tkOk m1 a) && tkOk m2 b) && tkOk m3 c) && (tkOk m4 d && tkOk m5 e)) := by
 have _ := l
 rw [Bool.and_assoc]
theorem qry {l : List Nat} (hl : ∀ x ∈ l, x < 256) (h : 4 ≤ l.length) : le4 (num4 (l.drop (l.length - 4))) = l.drop (l.length - 4) := by
 have h1 : (l.drop (l.length - 4)).length = 4 := by rw [List.length_drop]; omega
 rw [ql4 (qa0 hl _) (by omega), List.take_of_length_le (by omega)]
theorem qtt {l : List Nat} (hl : ∀ x ∈ l, x < 256) (h : qbj l = true) : sealL (l.take (l.length - 4)) = l := by
 unfold qbj at h
 rw [decide_eq_true_eq] at h
 unfold sealL
 rw [h.2, qry hl h.1, List.take_append_drop]
theorem qpr {l : List Nat} {b : Bk} {m er : Nat} (h : readB l = (b, m, er)) (he : er ≠ 0) : b = Bk.zero ∧ m = 0 := by
 unfold readB at h
 split at h
 ·simp only [Prod.mk.injEq] at h; exact ⟨h.1.symm, h.2.1.symm⟩
 ·split at h
  ·simp only [Prod.mk.injEq] at h; exact absurd h.2.2.symm he
  ·simp only [Prod.mk.injEq] at h; exact ⟨h.1.symm, h.2.1.symm⟩
theorem qps {l : List Nat} (h : (blkOf l).1 = none) : (blkOf l).2 ≠ 0 := by
 unfold blkOf at h ⊢
 split
 ·decide
 ·rename_i h1
  rw [if_neg h1] at h
  split
  ·decide
  ·rename_i h2
   rw [if_neg h2] at h
   split
   ·decide
   ·rename_i h3
    rw [if_neg h3] at h
    split
    ·decide
    ·rename_i h4
     rw [if_neg h4] at h
     split
     ·decide
     ·rename_i b hb
      rw [hb] at h
      cases h
structure OneForm (l : List Nat) (b : Bk) (m : Nat) : Prop where
 ok : b.Ok
 fits : b.fits = true
 err : b.err = 0
 out : b.out = l.take m
 len : m ≤ l.length
 evs : b.evs.length ≤ 4096
 least : 13 ≤ m
 most : m ≤ 4096
theorem qif {l : List Nat} {b : Bk} {m : Nat} (hl : ∀ x ∈ l, x < 256) (h : readB l = (b, m, 0)) : OneForm l b m := by
 unfold readB at h
 split at h
 ·rename_i h0; simp only [Prod.mk.injEq] at h; exact absurd h.2.2 h0
 ·rename_i h0
  obtain ⟨h1, h2, h3, h4⟩ := qpo (show (lenR l).2 = 0 by omega)
  split at h
  ·rename_i b' hb
   simp only [Prod.mk.injEq] at h
   obtain ⟨rfl, rfl, _⟩ := h
   generalize (lenR l).1 = n at h1 h2 h3 h4 hb
   have hL : ∀ x ∈ l.take n, x < 256 := qa7 hl n
   have hlen : (l.take n).length = n := by rw [List.length_take]; omega
   have hnum : num4 (l.take n) = n := by rw [qpp (by omega)]; exact h1
   obtain ⟨L, hLe⟩ : ∃ L, L = l.take n := ⟨_, rfl⟩
   rw [← hLe] at hb hL hlen hnum
   unfold blkOf at hb
   split at hb
   ·cases hb
   ·rename_i s1
    split at hb
    ·cases hb
    ·rename_i s2
     split at hb
     ·cases hb
     ·rename_i s3
      split at hb
      ·cases hb
      ·rename_i s4
       split at hb
       ·cases hb
       ·rename_i b'' hp
        injection hb with hb
        subst hb
        have hk : L.getD 7 0 = 1 ∨ L.getD 7 0 = 2 := by omega
        have s2 : L.getD 4 0 = 113 ∧ L.getD 5 0 = 116 := Decidable.of_not_not s2
        obtain ⟨q1, q2, q3, q4, q5⟩ := qm1 hk (qa0 (qa7 hL _) _) hp
        have herr : b''.err = 0 := by
         unfold Bk.err
         rw [if_neg (by simp [q3]), if_neg (by rw [q4, List.length_drop, List.length_take]; omega)]
        refine ⟨q2, q3, herr, ?_, h4, q5, h2, h3⟩
        rw [← hLe, qsy herr, qrx hL (by omega) (by omega) s2.1 s2.2 (by omega) q1.symm q4]
        exact qtt hL (by simpa using s1)
  ·rename_i hb
   simp only [Prod.mk.injEq] at h
   exact absurd h.2.2 (qps hb)
theorem qva {b : Bk} (h : b.fits = true) (h2 : 12 + b.body.length ≤ 4096) : b.err = 0 := by
 unfold Bk.err
 rw [if_neg (by simp [h]), if_neg (by omega)]
structure Hb where
 b : Bk
 A : Option Addr
 c : Nat
def Hb.zero : Hb := ⟨Bk.zero, none, 0⟩
def hbL (h : Hb) : List Value := (h.b.cells h.A h.c).toList
theorem qd4 (h : Hb) : (hbL h).length = 5 := rfl
def Hb.own (h : Hb) : Own := ⟨h.A, h.b.evs.length, h.c, h.b.evs.flatMap evL⟩
def hbF (t : TypeId) (q : List Hb) : List Fact := ownsF t 11 (q.map Hb.own)
def HbRd (w : World) (q : List Hb) : Prop := ∀ h ∈ q, Rd w w.heap.size 11 h.A h.b.evs.length (h.b.evs.flatMap evL)
section
variable {W w w' : World} {fs gs a b : List Fact} {t bt : TypeId} {q : List Hb}
theorem qru (h : Hb) : hbF t (q ++ [h]) = hbF t q ++ [.row (.slice h.A h.b.evs.length h.c) h.b.evs.length (h.b.evs.flatMap evL) t 11] := by
 unfold hbF ownsF
 rw [List.map_append, List.map_append]
 rfl
theorem qtr {h : Hb} (hq : h ∈ q) : Fact.row (.slice h.A h.b.evs.length h.c) h.b.evs.length (h.b.evs.flatMap evL) t 11 ∈ hbF t q := List.mem_map_of_mem (List.mem_map_of_mem hq)
theorem Mem.hbRd (h : Mem W w fs) (hs : ∀ f ∈ hbF t q, f ∈ fs) : HbRd w q := fun _ hx => h.qvu (hs _ (qtr hx))
theorem HbRd.old (h : HbRd W q) (HM : Mem W w fs) : HbRd w q := fun x hx => HM.old (h x hx)
theorem HbRd.at {k : Nat} (h : HbRd w q) (hk : k < q.length) : Rd w w.heap.size 11 (q.getD k Hb.zero).A (q.getD k Hb.zero).b.evs.length ((q.getD k Hb.zero).b.evs.flatMap evL) := by
 refine h _ ?_
 rw [List.getD_eq_getElem?_getD, List.getElem?_eq_getElem hk]
 exact List.getElem_mem hk
theorem Mem.toHb {x : Bk} {A : Option Addr} {c : Nat} (h : Mem W w (.row (.slice A x.evs.length c) x.evs.length (x.evs.flatMap evL) t 11 :: (a ++ (hbF t q ++ b)))) : Mem W w (a ++ (hbF t (q ++ [⟨x, A, c⟩]) ++ b)) := by
 refine h.perm ?_
 rw [qru]
 have h1 : (Fact.row (.slice A x.evs.length c) x.evs.length (x.evs.flatMap evL) t 11 :: (a ++ (hbF t q ++ b))).Perm (a ++ Fact.row (.slice A x.evs.length c) x.evs.length (x.evs.flatMap evL) t 11 :: (hbF t q ++ b)) := (List.perm_middle).symm
 refine h1.trans (List.Perm.append_left a ?_)
 rw [List.append_assoc]
 exact (List.perm_middle (l₁ := hbF t q) (l₂ := b)).symm
theorem Mem.qvq {f : Fact} (h : Mem W w (a ++ b)) (k : Mem w w' (f :: hbF t q)) : Mem W w' (f :: (a ++ (hbF t q ++ b))) := by
 refine (h.join k).perm (List.Perm.cons f ?_)
 show (hbF t q ++ (a ++ b)).Perm _
 rw [← List.append_assoc, ← List.append_assoc]
 exact List.Perm.append_right b List.perm_append_comm
end
def qjp (t bt : TypeId) (w : World) (er : Nat) (bs : List Bk) : Ending → World → Prop := fun r w' => ∃ A c q, r = .returned (.tuple #[.slice A bs.length c, .int .i64 (er : Int)]) ∧ q.map Hb.b = bs ∧ bs.length ≤ c ∧ Mem w w' (.row (.slice A bs.length c) bs.length (q.flatMap hbL) bt 5 :: hbF t q)
section
variable {W w : World} {fs a : List Fact} {t bt : TypeId} {q : List Hb}
theorem Mem.only (h : Mem W w fs) {f : Fact} (hf : f ∈ fs) : Mem W w [f] := ⟨h.below, fun k hk => by rw [List.mem_singleton] at hk; subst hk; exact h.holds k hf, List.pairwise_singleton _ _⟩
theorem Mem.qvv {x : Bk} {A : Option Addr} {c : Nat} (h : Mem W w (.row (.slice A x.evs.length c) x.evs.length (x.evs.flatMap evL) t 11 :: fs)) (hfs : fs = a ++ hbF t q) : Mem W w (a ++ hbF t (q ++ [⟨x, A, c⟩])) := by
 subst hfs
 have h1 := Mem.toHb (b := []) (by rwa [List.append_nil])
 rwa [List.append_nil] at h1
theorem qeo {er : Nat} {n : Int} (h : Mem W w fs) (he : n = er) : qjp t bt W er [] (.returned (.tuple #[.slice none 0 0, .int .i64 n])) w := by
 subst he
 exact ⟨none, 0, [], rfl, rfl, Nat.le_refl _, Mem.nil ⟨h.below, fun f hf => absurd hf List.not_mem_nil, .nil⟩ _ _⟩
theorem qrv {cpu : Nat} {opn : Int} (h : Mem W w fs) {i g : Nat} (hi : fs[i]? = some (.blk g #[.int .u8 1, .int .u8 (cpu : Int), .int .i64 opn, .int .i64 0, .slice none 0 0] bt)) : qjp t bt W 0 [⟨1, cpu, opn, 0, []⟩] (.returned (.tuple #[.slice (some ⟨g, 0, none⟩) 1 1, .int .i64 0])) w := by
 refine ⟨some ⟨g, 0, none⟩, 1, [⟨⟨1, cpu, opn, 0, []⟩, none, 0⟩], rfl, rfl, Nat.le_refl _, ?_⟩
 have h1 := (h.only (List.mem_of_getElem? hi)).blkRow (i := 0) (n := 1) (size := 5) rfl rfl (by decide)
 exact (h1.nil t 11).perm (List.Perm.swap _ _ _)
theorem qts {A : Option Addr} {c : Nat} (h : Mem W w (.row (.slice A q.length c) q.length (q.flatMap hbL) bt 5 :: hbF t q)) (hc : q.length ≤ c) : qjp t bt W 0 (q.map Hb.b) (.returned (.tuple #[.slice A q.length c, .int .i64 0])) w :=
 ⟨A, c, q, by rw [List.length_map]; rfl, rfl, by rwa [List.length_map], by rwa [List.length_map]⟩
end
theorem qhj (b : Bk) (hok : b.Ok) (A : Option Addr) (c B : Nat) (w : World) (hL : LaidX B w) (hB : B ≤ w.heap.size) (hr : Rd w w.heap.size 11 A b.evs.length (b.evs.flatMap evL)) (hn : b.evs.length ≤ 1000000) :
    Calls Tryd.prog 24 #[.agg (b.cells A c)] w (qaz w b.err b.out) := by
 refine qh (vs := [.agg (b.cells A c)]) Tryd.func24 rfl rfl (by kernel_rfl) (σ0 := [(0, .agg (b.cells A c))]) rfl ?_
 intro a HF
 have HM := Mem.start w
 refine wp_seq (qa ?_)
 refine fo HF 0 rfl rfl ?_
 refine e_box HF HM (cs := (b.cells A c)) rfl rfl rfl rfl (by decide) ?_
 clear HF HM; intro a w1 g1 HF HM
 refine fp HF 2 1 [(3, vI 0), (2, .slice none 0 0)] fun a HF => ?_
 refine qb rfl (wp_seq (wp_seq (qa ?_)))
 refine fy HF HM 0 rfl rfl rfl (v := .agg (b.cells A c)) (Yl.zg rfl rfl si_bk rfl (fun _ h => qd (h.blk (i := 0) rfl))) fun a HF => ?_
 refine fo HF 1 rfl rfl ?_
 refine e_is HF HM [.agg (b.cells A c)] (.bool b.fits) rfl rfl (qdn b hok A c B _ (hL.mem HM hB) (HM.le hB) (HM.old hr) hn) fun w8 hbw HM a HF => ?_
 refine fp HF 1 2 [(9, .bool (!b.fits))] fun a HF => ?_
 refine qb rfl ?_
 rcases HF.tf 9 rfl with ⟨hb9, HF⟩ | ⟨hb9, HF⟩
 ·
  have hfit : b.fits = false := by simpa using hb9
  refine qf HF rfl (wp_seq (qa ?_))
  refine fp HF 2 0 [(3, vI 107), (2, .slice none 0 0)] fun a HF => ?_
  refine qb rfl (wp_ret ?_)
  exact ret2 rfl HF (.tmp HF rfl) (.tmp HF rfl) (qsx (by unfold Bk.err; rw [if_pos hfit]) (by decide) HM.below)
 have hfit : b.fits = true := by simpa using hb9
 have hbl := qgb b
 refine qe HF rfl (wp_skip (wp_seq (qa ?_)))
 refine fy HF HM 0 rfl rfl rfl (v := .agg (b.cells A c)) (Yl.zg rfl rfl si_bk rfl (fun _ h => qd (h.blk (i := 0) rfl))) fun a HF => ?_
 refine fo HF 1 rfl rfl ?_
 refine e_cl HF [.agg (b.cells A c)] rfl rfl (qrs b hok A c B _ (hL.mem HM hB) (HM.le hB) (HM.old hr) hn hfit) ?_
 rintro _ w11 ⟨⟨A11, c11, rfl, ho, hc11⟩, hbw⟩
 refine ⟨_, rfl, ?_⟩
 replace HM := HM.callRow hbw ho
 clear HF; intro a HF
 refine fp HF 1 2 [(4, .slice A11 ((b.body).length) c11)] fun a HF => ?_
 refine qb rfl (wp_seq (qa ?_))
 refine fp HF 1 0 [(12, .slice A11 ((b.body).length) c11)] fun a HF => ?_
 refine fy HF HM 1 rfl rfl rfl (Yl.len rfl rfl (by kernel_rfl)) fun a HF => ?_
 refine fp HF 1 2 [(14, vI (IntKind.i64.wrap (8 + (((b.body).length : Nat) : Int))))] fun a HF => ?_
 replace HF := HF.sp 14 (vI (8 + ((b.body).length) : Nat)) rfl (ql (by omega) (by omega))
 refine fp HF 1 3 [(15, vI (IntKind.i64.wrap (((8 + ((b.body).length) : Nat) : Int) + 4)))] fun a HF => ?_
 replace HF := HF.sp 15 (vI (8 + ((b.body).length) + 4 : Nat)) rfl (ql (by omega) (by omega))
 refine fp HF 1 4 [(5, vI (8 + ((b.body).length) + 4 : Nat))] fun a HF => ?_
 refine qb rfl (wp_seq (wp_seq (qa ?_)))
 refine fp HF 2 0 [(17, .bool (decide (((8 + ((b.body).length) + 4 : Nat) : Int) > (4096 : Int))))] fun a HF => ?_
 refine qb rfl ?_
 rcases HF.tf 17 rfl with ⟨hb17, HF⟩ | ⟨hb17, HF⟩
 ·
  have hd17 := of_decide_eq_true hb17
  refine qf HF rfl (wp_seq (qa ?_))
  refine fp HF 2 0 [(3, vI 3), (2, .slice none 0 0)] fun a HF => ?_
  refine qb rfl (wp_ret ?_)
  exact ret2 rfl HF (.tmp HF rfl) (.tmp HF rfl) (qsx (by unfold Bk.err; rw [if_neg (by simp [hfit]), if_pos (by omega)]) (by decide) HM.below)
 have hd17 := of_decide_eq_false hb17
 refine qe HF rfl (wp_skip (wp_seq (qa ?_)))
 refine fp HF 2 0 [(19, vB (IntKind.u8.wrap ((8 + ((b.body).length) + 4 : Nat) : Int)))] fun a HF => ?_
 replace HF := HF.sp 19 (vB ((8 + ((b.body).length) + 4) % 256 : Nat)) rfl (qg9 (8 + ((b.body).length) + 4))
 refine fp HF 2 2 [(21, vI (Int.fdiv ((8 + ((b.body).length) + 4 : Nat) : Int) (2 ^ (min (8 : Int).toNat (IntKind.i64).bits))))] fun a HF => ?_
 replace HF := HF.sp 21 (vI ((8 + ((b.body).length) + 4) / 256 : Nat)) rfl (qdl .i64 (8 + ((b.body).length) + 4) (j := 8) (q := 256) rfl rfl)
 refine fp HF 1 4 [(22, vB (IntKind.u8.wrap (((8 + ((b.body).length) + 4) / 256 : Nat) : Int)))] fun a HF => ?_
 replace HF := HF.sp 22 (vB (((8 + ((b.body).length) + 4) / 256) % 256 : Nat)) rfl (qg9 ((8 + ((b.body).length) + 4) / 256))
 refine fy HF HM 5 rfl rfl rfl (v := vP 0 0) (Yl.qds (ad := ⟨0, 0, none⟩) (m := 2) (y := 0) (sz := 1) rfl rfl rfl (by kernel_rfl) (by decide)) fun a HF => ?_
 refine fy HF HM 6 rfl rfl rfl (v := vB 113) (Yl.qi rfl rfl (by kernel_rfl) (fun _ h => (hL.mem h hB).magic0)) fun a HF => ?_
 refine fy HF HM 7 rfl rfl rfl (v := vP 0 1) (Yl.qds (ad := ⟨0, 0, none⟩) (m := 2) (y := 1) (sz := 1) rfl rfl rfl (by kernel_rfl) (by decide)) fun a HF => ?_
 refine fy HF HM 8 rfl rfl rfl (v := vB 116) (Yl.qi rfl rfl (by kernel_rfl) (fun _ h => (hL.mem h hB).magic1)) fun a HF => ?_
 refine fp HF 1 9 [(27, vP g1 0)] fun a HF => ?_
 refine fy HF HM 10 rfl rfl rfl (v := vB b.kind) (Yl.qi rfl rfl (by kernel_rfl) (fun _ h => h.cell (i := 1) rfl (rfl))) fun a HF => ?_
 refine fo HF 11 rfl rfl ?_
 refine zo HF HM (vs := [(0, vB ((8 + ((b.body).length) + 4) % 256 : Nat)), (1, vB (((8 + ((b.body).length) + 4) / 256) % 256 : Nat)), (2, vB 0), (3, vB 0), (4, vB 113), (5, vB 116), (6, vB 1), (7, vB b.kind)]) (cs := #[vB ((8 + ((b.body).length) + 4) % 256 : Nat), vB (((8 + ((b.body).length) + 4) / 256) % 256 : Nat), vB 0, vB 0, vB 113, vB 116, vB 1, vB b.kind]) rfl ei_u8 (by decide) rfl (by kernel_rfl) rfl (by decide) ?_
 clear HF HM; intro a w29 g29 HF HM
 refine fp HF 1 12 [(6, vS g29 8 8)] fun a HF => ?_
 refine qb rfl (wp_seq (qa ?_))
 refine fp HF 2 0 [(31, .slice A11 ((b.body).length) c11), (30, vS g29 8 8)] fun a HF => ?_
 refine fo HF 2 rfl rfl ?_
 replace HM := HM.blkRow (i := 0) (n := 8) (size := 1) rfl rfl (by decide)
 refine zh HF HM (i := 0) rfl ei_u8 rfl rfl rfl (news := (b.body.map B8)) (HM.rd (i := 1) rfl) (qfj _) (by omega) (by omega) rfl (by decide) ?_
 clear HF HM; intro a w32 A32 c32 HF HM hc32
 rw [show ((#[vB ((8 + ((b.body).length) + 4) % 256 : Nat), vB (((8 + ((b.body).length) + 4) / 256) % 256 : Nat), vB 0, vB 0, vB 113, vB 116, vB 1, vB b.kind]).toList) ++ (b.body.map B8) = b.raw.map B8 from qpi (by omega)] at HM
 refine fo HF 3 rfl rfl ?_
 refine e_cl HF [.slice A32 (8 + (b.body).length) c32] rfl rfl (qrr _ _ _ b.raw B _ (hL.mem HM hB) (HM.le hB) (HM.rd (i := 0) rfl) (qhf b) (by omega) (qu8 hok)) ?_
 rintro _ w33 ⟨⟨A33, c33, rfl, ho, hc33⟩, hbw⟩
 refine ⟨_, rfl, ?_⟩
 replace HM := HM.callRow hbw ho
 clear HF; intro a HF
 refine fp HF 4 4 [(3, vI 0), (2, .slice A33 ((sealL b.raw).length) c33)] fun a HF => ?_
 refine qb rfl (wp_ret ?_)
 replace HM := HM.picks (fs' := [.row (.slice A33 ((sealL b.raw).length) c33) ((sealL b.raw).length) ((sealL b.raw).map B8) 5 1, .row (.slice A11 ((b.body).length) c11) ((b.body).length) (b.body.map B8) 5 1, .blk g1 (b.cells A c) 41]) [0, 2, 3] (by decide) rfl
 have herr : b.err = 0 := by unfold Bk.err; rw [if_neg (by simp [hfit]), if_neg (by omega)]
 exact ret2 rfl HF (.tmp HF rfl) (.tmp HF rfl) ((by rw [herr, qsy herr]; exact ⟨⟨_, _, rfl, HM.own (i := 0) rfl, hc33⟩, HM.below⟩))
theorem qna (b : Bk) (hok : b.Ok) (A : Option Addr) (c B : Nat) (w : World) (hL : LaidX B w) (hB : B ≤ w.heap.size) (hr : Rd w w.heap.size 11 A b.evs.length (b.evs.flatMap evL)) (hn : b.evs.length ≤ 1000000) :
    Calls Tryd.prog 13 #[.agg (b.cells A c)] w (Is w (.int .i64 (b.err : Int))) := by
 refine qh (vs := [.agg (b.cells A c)]) Tryd.func13 rfl rfl (by kernel_rfl) (σ0 := [(0, .agg (b.cells A c))]) rfl ?_
 intro a HF
 have HM := Mem.start w
 refine wp_seq (qa ?_)
 refine fo HF 0 rfl rfl ?_
 refine e_box HF HM (cs := (b.cells A c)) rfl rfl rfl rfl (by decide) ?_
 clear HF HM; intro a w1 g1 HF HM
 refine fp HF 1 1 [(2, vI 0)] fun a HF => ?_
 refine qb rfl (wp_seq (qa ?_))
 refine fy HF HM 0 rfl rfl rfl (v := .agg (b.cells A c)) (Yl.zg rfl rfl si_bk rfl (fun _ h => qd (h.blk (i := 0) rfl))) fun a HF => ?_
 refine fo HF 1 rfl rfl ?_
 refine e_cl HF [.agg (b.cells A c)] rfl rfl (qhj b hok A c B _ (hL.mem HM hB) (HM.le hB) (HM.old hr) hn) ?_
 rintro _ w7 ⟨⟨A7, c7, rfl, ho, hc7⟩, hbw⟩
 refine ⟨_, rfl, ?_⟩
 replace HM := HM.callRow hbw ho
 clear HF; intro a HF
 refine fp HF 5 2 [(4, vI b.err)] fun a HF => ?_
 refine qb rfl (wp_seq (qa ?_))
 refine fp HF 2 0 [(2, vI b.err)] fun a HF => ?_
 refine qb rfl (wp_ret ?_)
 replace HM := HM.picks (fs' := []) [] (by decide) rfl
 exact ret1 rfl HF (.tmp HF rfl) (⟨rfl, HM.below⟩)
theorem qck (W w : World) (gb gk : Nat) (A : Option Addr) (n c : Nat) (l : List Nat) (okb : Bool) (most : Nat) (fr : List Fact) (hl : ∀ b ∈ l, b < 256) (hln : n = l.length) (hn : n ≤ 1000000000) (hr0 : Rd W W.heap.size 1 A n (l.map B8)) (hc0 : n ≤ c) (hmost : most ≤ 281474976710657)
    (HM : Mem W w (.blk gb #[.slice A n c] 54 :: .blk gk #[.bool okb] 4 :: fr)) :
    Calls Tryd.prog 82 #[.int .i64 (most : Int), .pointer (some ⟨gb, 0, none⟩), .pointer (some ⟨gk, 0, none⟩)] w (qsz W gb gk l okb most fr) := by
 have hr : Rd W W.heap.size 1 A l.length (l.map B8) := hln ▸ hr0
 have hc : l.length ≤ c := hln ▸ hc0
 refine qh (vs := [vI most, vP gb 0, vP gk 0]) Tryd.func82 rfl rfl (by kernel_rfl) (σ0 := [(0, vI most), (1, vP gb 0), (2, vP gk 0)]) rfl ?_
 intro a HF
 refine wp_seq (qa ?_)
 refine fp HF 1 0 [(4, vI 0)] fun a HF => ?_
 refine qb rfl ?_
 have hvl := qcb l
 have hvb := qd0 l hl
 have htv := qcy most l
 refine wp_seq (qa ?_)
 refine fy HF HM 0 rfl rfl rfl (Yl.qi rfl rfl (by kernel_rfl) (fun _ h => h.cell (i := 0) rfl rfl)) fun a HF => ?_
 refine fo HF 1 rfl rfl ?_
 refine e_cl HF [.slice A n c] rfl rfl (qlo A n c l _ (hln ▸ HM.old hr) hl (by omega)) ?_
 rintro _ w10 ⟨rfl, hbw⟩
 refine ⟨_, rfl, ?_⟩
 replace HM := HM.call hbw
 clear HF; intro a HF
 refine fp HF 7 2 [(7, vI ((vread l).2.2)), (6, vI ((vread l).2.1)), (5, vQ ((vread l).1))] fun a HF => ?_
 refine qb rfl (wp_seq (qa ?_))
 refine fy HF HM 0 rfl rfl rfl (Yl.qi rfl rfl (by kernel_rfl) (fun _ h => h.cell (i := 1) rfl rfl)) fun a HF => ?_
 refine fp HF 1 1 [(15, .bool okb)] fun a HF => ?_
 rcases HF.tf 15 rfl with ⟨hb15, HF⟩ | ⟨hb15, HF⟩
 ·
  refine fp HF 4 2 [(19, .bool (((vread l).2.2 : Int) == (0 : Int)))] fun a HF => ?_
  rcases HF.tf 19 rfl with ⟨hb19, HF⟩ | ⟨hb19, HF⟩
  ·
   have hd19 := eq_of_beq hb19
   refine fp HF 3 6 [(22, vQ (IntKind.u64.wrap (most : Int))), (20, vQ ((vread l).1))] fun a HF => ?_
   replace HF := HF.sp 22 (vQ most) rfl (qap rfl (by omega))
   refine fp HF 2 9 [(24, .bool (decide (((vread l).1 : Int) ≤ (most : Int))))] fun a HF => ?_
   refine fo HF 11 rfl rfl ?_
   refine qq HF HM (i := 1) rfl rfl rfl rfl (by kernel_rfl) rfl rfl (by simp) ?_
   clear HM; intro w2_11 HM
   refine qb rfl (wp_seq (qa ?_))
   refine fy HF HM 0 rfl rfl rfl (Yl.qi rfl rfl (by kernel_rfl) (fun _ h => h.cell (i := 0) rfl rfl)) fun a HF => ?_
   refine fp HF 1 1 [(26, vI ((vread l).2.1))] fun a HF => ?_
   refine fy HF HM 2 rfl rfl rfl (v := .slice (if c = (vread l).2.1 then A else A.map (·.add ((vread l).2.1 * 1))) (n - (vread l).2.1) (c - (vread l).2.1)) (Yl.sliceFrom ei_u8 (j := (vread l).2.1) rfl rfl rfl (by omega)) fun a HF => ?_
   refine fo HF 3 rfl rfl ?_
   refine qq HF HM (i := 0) rfl rfl rfl rfl (by kernel_rfl) rfl rfl (by simp) ?_
   clear HM; intro w3_3 HM
   refine qb rfl (wp_seq (qa ?_))
   refine fp HF 3 0 [(30, vQ (IntKind.u64.wrap (most : Int))), (28, vQ ((vread l).1))] fun a HF => ?_
   replace HF := HF.sp 30 (vQ most) rfl (qap rfl (by omega))
   refine fy HF HM 3 rfl rfl rfl (v := vQ (if (most : Int) < ((vread l).1 : Int) then (most : Int) else ((vread l).1 : Int))) (Yl.min rfl rfl rfl) fun a HF => ?_
   replace HF := HF.sp 31 (vQ (tkVal most l)) rfl (by rw [qgc])
   refine fp HF 1 4 [(32, vI (IntKind.i64.wrap (tkVal most l : Int)))] fun a HF => ?_
   replace HF := HF.sp 32 (vI (tkVal most l : Nat)) rfl (ql rfl (by omega))
   refine fp HF 1 5 [(4, vI (tkVal most l : Nat))] fun a HF => ?_
   refine qb rfl (wp_ret ?_)
   replace HM := HM.picksT (fs' := (.blk gb #[.slice (if c = (vread l).2.1 then A else A.map (·.add ((vread l).2.1 * 1))) (n - (vread l).2.1) (c - (vread l).2.1)] 54 :: .blk gk #[.bool (decide (((vread l).1 : Int) ≤ (most : Int)))] 4 :: fr)) 2 [0, 1] (by decide) (by decide) rfl
   exact ret1 rfl HF (.tmp HF rfl) (qgd hr hc (by rw [hb15, Bool.true_and]; unfold tkOk; rw [Bool.eq_iff_iff]; simp only [decide_eq_true_eq]; omega) hln HM)
  have hd19 := ne_of_beq_false hb19
  refine fp HF 5 6 [(24, .bool false)] fun a HF => ?_
  refine fo HF 11 rfl rfl ?_
  refine qq HF HM (i := 1) rfl rfl rfl rfl (by kernel_rfl) rfl rfl (by simp) ?_
  clear HM; intro w2_11 HM
  refine qb rfl (wp_seq (qa ?_))
  refine fy HF HM 0 rfl rfl rfl (Yl.qi rfl rfl (by kernel_rfl) (fun _ h => h.cell (i := 0) rfl rfl)) fun a HF => ?_
  refine fp HF 1 1 [(26, vI ((vread l).2.1))] fun a HF => ?_
  refine fy HF HM 2 rfl rfl rfl (v := .slice (if c = (vread l).2.1 then A else A.map (·.add ((vread l).2.1 * 1))) (n - (vread l).2.1) (c - (vread l).2.1)) (Yl.sliceFrom ei_u8 (j := (vread l).2.1) rfl rfl rfl (by omega)) fun a HF => ?_
  refine fo HF 3 rfl rfl ?_
  refine qq HF HM (i := 0) rfl rfl rfl rfl (by kernel_rfl) rfl rfl (by simp) ?_
  clear HM; intro w3_3 HM
  refine qb rfl (wp_seq (qa ?_))
  refine fp HF 3 0 [(30, vQ (IntKind.u64.wrap (most : Int))), (28, vQ ((vread l).1))] fun a HF => ?_
  replace HF := HF.sp 30 (vQ most) rfl (qap rfl (by omega))
  refine fy HF HM 3 rfl rfl rfl (v := vQ (if (most : Int) < ((vread l).1 : Int) then (most : Int) else ((vread l).1 : Int))) (Yl.min rfl rfl rfl) fun a HF => ?_
  replace HF := HF.sp 31 (vQ (tkVal most l)) rfl (by rw [qgc])
  refine fp HF 1 4 [(32, vI (IntKind.i64.wrap (tkVal most l : Int)))] fun a HF => ?_
  replace HF := HF.sp 32 (vI (tkVal most l : Nat)) rfl (ql rfl (by omega))
  refine fp HF 1 5 [(4, vI (tkVal most l : Nat))] fun a HF => ?_
  refine qb rfl (wp_ret ?_)
  replace HM := HM.picksT (fs' := (.blk gb #[.slice (if c = (vread l).2.1 then A else A.map (·.add ((vread l).2.1 * 1))) (n - (vread l).2.1) (c - (vread l).2.1)] 54 :: .blk gk #[.bool false] 4 :: fr)) 2 [0, 1] (by decide) (by decide) rfl
  exact ret1 rfl HF (.tmp HF rfl) (qgd hr hc (by rw [qm9 (by omega), Bool.and_false]) hln HM)
 refine fp HF 9 2 [(24, .bool false)] fun a HF => ?_
 refine fo HF 11 rfl rfl ?_
 refine qq HF HM (i := 1) rfl rfl rfl rfl (by kernel_rfl) rfl rfl (by simp) ?_
 clear HM; intro w2_11 HM
 refine qb rfl (wp_seq (qa ?_))
 refine fy HF HM 0 rfl rfl rfl (Yl.qi rfl rfl (by kernel_rfl) (fun _ h => h.cell (i := 0) rfl rfl)) fun a HF => ?_
 refine fp HF 1 1 [(26, vI ((vread l).2.1))] fun a HF => ?_
 refine fy HF HM 2 rfl rfl rfl (v := .slice (if c = (vread l).2.1 then A else A.map (·.add ((vread l).2.1 * 1))) (n - (vread l).2.1) (c - (vread l).2.1)) (Yl.sliceFrom ei_u8 (j := (vread l).2.1) rfl rfl rfl (by omega)) fun a HF => ?_
 refine fo HF 3 rfl rfl ?_
 refine qq HF HM (i := 0) rfl rfl rfl rfl (by kernel_rfl) rfl rfl (by simp) ?_
 clear HM; intro w3_3 HM
 refine qb rfl (wp_seq (qa ?_))
 refine fp HF 3 0 [(30, vQ (IntKind.u64.wrap (most : Int))), (28, vQ ((vread l).1))] fun a HF => ?_
 replace HF := HF.sp 30 (vQ most) rfl (qap rfl (by omega))
 refine fy HF HM 3 rfl rfl rfl (v := vQ (if (most : Int) < ((vread l).1 : Int) then (most : Int) else ((vread l).1 : Int))) (Yl.min rfl rfl rfl) fun a HF => ?_
 replace HF := HF.sp 31 (vQ (tkVal most l)) rfl (by rw [qgc])
 refine fp HF 1 4 [(32, vI (IntKind.i64.wrap (tkVal most l : Int)))] fun a HF => ?_
 replace HF := HF.sp 32 (vI (tkVal most l : Nat)) rfl (ql rfl (by omega))
 refine fp HF 1 5 [(4, vI (tkVal most l : Nat))] fun a HF => ?_
 refine qb rfl (wp_ret ?_)
 replace HM := HM.picksT (fs' := (.blk gb #[.slice (if c = (vread l).2.1 then A else A.map (·.add ((vread l).2.1 * 1))) (n - (vread l).2.1) (c - (vread l).2.1)] 54 :: .blk gk #[.bool false] 4 :: fr)) 2 [0, 1] (by decide) (by decide) rfl
 exact ret1 rfl HF (.tmp HF rfl) (qgd hr hc (by rw [hb15, Bool.false_and]) hln HM)
theorem qie {l : List Nat} {es : List Ev} {L er : Nat} (h3 : qci l = true) (h0 : 0 < tkVal 4096 (qc (qc l)))
  (hq : readR ⟨(tkVal 281474976710656 (qc (qc (qc l))) : Int), (tkVal 281474976710656 (qc (qc (qc (qc l)))) : Int)⟩ (tkVal 63 l) (tkVal 4096 (qc (qc l)) : Int) (qc (qc (qc (qc (qc l))))) = (es, L, er)) (her : er = 0) :
  zd l = qab (tkVal 63 l) (tkVal 281474976710656 (qc l)) (qc (qc (qc l))) (es, L, 0) := by
 rw [qen h3 h0 hq, her]
theorem qbh (k : Nat) (hk : k = 1 ∨ k = 2) (A : Option Addr) (n c : Nat) (l : List Nat) (B : Nat) (w : World) (hL : LaidX B w) (hB : B ≤ w.heap.size) (hr : Rd w w.heap.size 1 A n (l.map B8)) (hc : n ≤ c) (hln : n = l.length) (hn : n ≤ 100000000) (hl : ∀ b ∈ l, b < 256) :
    Calls Tryd.prog 69 #[.int .u8 (k : Int), .slice A n c] w (qd2 w (qdv k l)) := by
 refine qh (vs := [vB k, .slice A n c]) Tryd.func69 rfl rfl (by kernel_rfl) (σ0 := [(0, vB k), (1, .slice A n c)]) rfl ?_
 intro a HF
 have HM := Mem.start w
 refine wp_seq (qa ?_)
 refine fo HF 0 rfl rfl ?_
 refine e_box HF HM (cs := #[.slice A n c]) rfl rfl rfl rfl (by decide) ?_
 clear HF HM; intro a w3 g3 HF HM
 refine fo HF 1 rfl rfl ?_
 refine qp HF HM (cs := #[vB 0, vB 0, vI 0, vI 0, .slice none 0 0]) rfl (by kernel_rfl) rfl (by decide) ?_
 clear HF HM; intro a w4 g4 HF HM
 refine fp HF 1 2 [(5, .bool false)] fun a HF => ?_
 refine qb rfl (wp_seq (qa ?_))
 refine fo HF 0 rfl rfl ?_
 refine qp HF HM (cs := #[.bool false]) rfl (by kernel_rfl) rfl (by decide) ?_
 clear HF HM; intro a w6 g6 HF HM
 refine fo HF 1 rfl rfl ?_
 refine qq HF HM (i := 0) rfl rfl rfl rfl (by kernel_rfl) rfl rfl (by simp) ?_
 clear HM; intro w1_1 HM
 refine qb rfl (wp_seq (qa ?_))
 refine fy HF HM 0 rfl rfl rfl (v := .func (.func 82) #[] #[vP g3 0, vP g6 0]) (Yl.makeFunc (fst := []) (caps := [vP g3 0, vP g6 0]) rfl rfl rfl) fun a HF => ?_
 refine fp HF 1 1 [(7, .func (.func 82) #[] #[vP g3 0, vP g6 0])] fun a HF => ?_
 refine qb rfl (wp_seq (qa ?_))
 refine fp HF 1 0 [(15, vB k)] fun a HF => ?_
 refine fy HF HM 1 rfl rfl rfl (v := .agg #[vB k, vB 0, vI 0, vI 0, .slice none 0 0]) (Yl.build (vs := [(0, vB k)]) rfl (by kernel_rfl) (by kernel_rfl)) fun a HF => ?_
 refine fo HF 2 rfl rfl ?_
 refine qp HF HM (cs := #[vB 0, vB 0, vI 0, vI 0, .slice none 0 0]) rfl (by kernel_rfl) rfl (by decide) ?_
 clear HF HM; intro a w8 g8 HF HM
 refine fo HF 3 rfl rfl ?_
 refine e_sa HF HM 0 rfl rfl rfl rfl rfl si_bk rfl rfl (by simp [Value.oneCell']) ?_
 clear HM; intro w3_3 HM
 refine qb rfl (wp_seq (wp_seq (qa ?_)))
 refine fp HF 2 0 [(18, .bool ((k : Int) == (2 : Int)))] fun a HF => ?_
 refine qb rfl ?_
 rcases HF.tf 18 rfl with ⟨hb18, HF⟩ | ⟨hb18, HF⟩
 ·
  have hd18 := eq_of_beq hb18
  obtain rfl : k = 2 := by omega
  refine qf HF rfl (wp_seq (qa ?_))
  refine fp HF 1 0 [(19, .func (.func 82) #[] #[vP g3 0, vP g6 0])] fun a HF => ?_
  refine fo HF 1 rfl rfl ?_
  replace HM := HM.picks (fs' := [.blk g3 #[.slice A n c] 54, .blk g6 #[.bool true] 4, .blk g8 #[vB (2 : Nat), vB 0, vI 0, vI 0, .slice none 0 0] 41, .blk g4 #[vB 0, vB 0, vI 0, vI 0, .slice none 0 0] 41]) [3, 1, 0, 2] (by decide) rfl
  have hl1 := zm hl
  refine qb7 HF (f := 82) (vs := [vI 281474976710657]) (fst := []) (caps := [vP g3 0, vP g6 0]) rfl rfl rfl (by kernel_rfl) rfl (by decide) (qck w _ g3 g6 A n c l true 281474976710657 [.blk g8 #[vB (2 : Nat), vB 0, vI 0, vI 0, .slice none 0 0] 41, .blk g4 #[vB 0, vB 0, vI 0, vI 0, .slice none 0 0] 41] hl hln (by omega) hr hc (by omega) HM) ?_
  rintro _ w20 ⟨rfl, Aq1, cq1, hr1, hc1, hm⟩
  refine ⟨_, rfl, ?_⟩
  replace HM := hm
  clear HF; intro a HF
  have ht0 := qcy 281474976710657 l
  have hs0 := qcj l
  refine fp HF 1 2 [(21, vP g8 3)] fun a HF => ?_
  refine fo HF 3 rfl rfl ?_
  refine qq HF HM (i := 2) rfl rfl rfl rfl (by kernel_rfl) rfl rfl (by simp) ?_
  clear HM; intro w5_3 HM
  refine qb rfl ?_
  refine qay (fun aS wS => Fr aS 99 [] [(5, .bool ((qan l).isSome)), (18, .bool true), (8, vP g8 0), (7, .func (.func 82) #[] #[vP g3 0, vP g6 0]), (6, vP g6 0), (4, vP g4 0), (3, vP g3 0), (0, vB (2 : Nat))] ∧ Mem w wS [.blk g3 #[.slice Aq1 ((qc l).length) cq1] 54, .blk g6 #[.bool (true && tkOk 281474976710657 l)] 4, .blk g8 #[vB (2 : Nat), vB 0, vI 0, vI (tkVal 281474976710657 l), .slice none 0 0] 41, .blk g4 #[vB (2 : Nat), vB 0, vI 0, vI (tkVal 281474976710657 l), .slice none 0 0] 41]) ?_ ?_
  ·
   refine qae HM [.blk g3 #[.slice Aq1 ((qc l).length) cq1] 54, .blk g6 #[.bool (true && tkOk 281474976710657 l)] 4, .blk g8 #[vB (2 : Nat), vB 0, vI 0, vI (tkVal 281474976710657 l), .slice none 0 0] 41] [0, 1, 2] [] fun HM HS => ?_
   refine ay HF HS 0 rfl rfl rfl (v := .agg #[vB (2 : Nat), vB 0, vI 0, vI (tkVal 281474976710657 l), .slice none 0 0]) (Yl.zg rfl rfl si_bk rfl (fun _ h => qd (h.blk (i := 2) rfl))) fun a HF => ?_
   refine ay HF HS 1 rfl rfl rfl (Yl.qi rfl rfl (by kernel_rfl) (fun _ h => h.cell (i := 1) rfl rfl)) fun a HF => ?_
   refine ap HF (fun _ => HS) [2] #[true, true, true, false, false, false, false, false, false, false, false, false, false] [(24, .bool (true && tkOk 281474976710657 l))] fun a HF => ?_
   rcases HF.tf 24 rfl with ⟨hb24, HF⟩ | ⟨hb24, HF⟩
   ·
    refine ay HF HS 3 rfl rfl rfl (Yl.qi rfl rfl (by kernel_rfl) (fun _ h => h.cell (i := 0) rfl rfl)) fun a HF => ?_
    refine ay HF HS 4 rfl rfl rfl (Yl.len rfl rfl (by kernel_rfl)) fun a HF => ?_
    refine ap HF (fun _ => HS) [5, 6, 7] #[true, true, true, true, true, true, true, true, false, false, false, false, false] [(29, .bool ((((qc l).length : Nat) : Int) == (0 : Int)))] fun a HF => ?_
    rcases HF.tf 29 rfl with ⟨hb29, HF⟩ | ⟨hb29, HF⟩
    ·
     have hd29 := eq_of_beq hb29
     refine ay HF HS 8 rfl rfl rfl (v := .agg #[vB (2 : Nat), vB 0, vI 0, vI (tkVal 281474976710657 l), .slice none 0 0]) (Yl.zg rfl rfl si_bk rfl (fun _ h => qd (h.blk (i := 2) rfl))) fun a HF => ?_
     refine qg [9] (by kernel_rfl) rfl ?_
     refine all_cons ?_ all_nil
     refine qj HF (i := 9) rfl rfl ?_
     refine e_is HF HM [.agg #[vB (2 : Nat), vB 0, vI 0, vI (tkVal 281474976710657 l), .slice none 0 0]] (.bool (Bk.fits ⟨2, 0, 0, (tkVal 281474976710657 l : Int), []⟩)) rfl rfl (qdn ⟨2, 0, 0, (tkVal 281474976710657 l : Int), []⟩ (endOk ht0) none 0 B _ (hL.mem HM hB) (HM.le hB) Rd.nil (by show 0 ≤ _; omega)) fun w31 hbw HM a HF => ?_
     refine keepS (HM.picks [0, 1, 2] (by decide) rfl) (fun HS => ?_)
     refine ap HF (fun _ => HS) [10] #[true, true, true, true, true, true, true, true, true, true, true, false, false] [(32, .bool (Bk.fits ⟨2, 0, 0, (tkVal 281474976710657 l : Int), []⟩))] fun a HF => ?_
     refine qg [11] (by kernel_rfl) rfl ?_
     refine all_cons ?_ all_nil
     refine qj HF (i := 11) rfl rfl ?_
     refine e_sa HF HM 3 rfl rfl rfl rfl rfl si_bk rfl rfl (by simp [Value.oneCell']) ?_
     clear HM; intro w6_11 HM
     refine keepS (HM.picks [0, 1, 2] (by decide) rfl) (fun HS => ?_)
     refine ap HF (fun _ => HS) [12] #[true, true, true, true, true, true, true, true, true, true, true, true, true] [(5, .bool (Bk.fits ⟨2, 0, 0, (tkVal 281474976710657 l : Int), []⟩))] fun a HF => ?_
     refine qn (by kernel_rfl) ?_
     have HF := HF.as (t := 5) (u := .bool ((qan l).isSome)) rfl (congrArg Value.bool (by rw [qd3, show tkOk 281474976710657 l = true by simpa using hb24, decide_eq_true (by omega), Bool.true_and, Bool.true_and]))
     exact ⟨HF.sub (by kernel_rfl), HM.picks [0, 1, 2, 3] (by decide) rfl⟩
    have hd29 := ne_of_beq_false hb29
    refine ap HF (fun _ => HS) [8, 9, 10] #[true, true, true, true, true, true, true, true, true, true, true, false, false] [(32, .bool false)] fun a HF => ?_
    refine qg [11] (by kernel_rfl) rfl ?_
    refine all_cons ?_ all_nil
    refine qj HF (i := 11) rfl rfl ?_
    refine e_sa HF HM 3 rfl rfl rfl rfl rfl si_bk rfl rfl (by simp [Value.oneCell']) ?_
    clear HM; intro w6_11 HM
    refine keepS (HM.picks [0, 1, 2] (by decide) rfl) (fun HS => ?_)
    refine ap HF (fun _ => HS) [12] #[true, true, true, true, true, true, true, true, true, true, true, true, true] [(5, .bool false)] fun a HF => ?_
    refine qn (by kernel_rfl) ?_
    have HF := HF.as (t := 5) (u := .bool ((qan l).isSome)) rfl (congrArg Value.bool (by rw [qd3, decide_eq_false (by omega), Bool.false_and, Bool.and_false]))
    exact ⟨HF.sub (by kernel_rfl), HM.picks [0, 1, 2, 3] (by decide) rfl⟩
   refine ap HF (fun _ => HS) [3, 4, 5, 6, 7, 8, 9, 10] #[true, true, true, true, true, true, true, true, true, true, true, false, false] [(32, .bool false)] fun a HF => ?_
   refine qg [11] (by kernel_rfl) rfl ?_
   refine all_cons ?_ all_nil
   refine qj HF (i := 11) rfl rfl ?_
   refine e_sa HF HM 3 rfl rfl rfl rfl rfl si_bk rfl rfl (by simp [Value.oneCell']) ?_
   clear HM; intro w6_11 HM
   refine keepS (HM.picks [0, 1, 2] (by decide) rfl) (fun HS => ?_)
   refine ap HF (fun _ => HS) [12] #[true, true, true, true, true, true, true, true, true, true, true, true, true] [(5, .bool false)] fun a HF => ?_
   refine qn (by kernel_rfl) ?_
   have HF := HF.as (t := 5) (u := .bool ((qan l).isSome)) rfl (congrArg Value.bool (by rw [qd3, show tkOk 281474976710657 l = false by simpa using hb24]; rfl))
   exact ⟨HF.sub (by kernel_rfl), HM.picks [0, 1, 2, 3] (by decide) rfl⟩
  clear HF HM; rintro a w6 ⟨HF, HM⟩
  refine wp_ret ?_
  rcases HF.tf 5 rfl with ⟨hb5, HF⟩ | ⟨hb5, HF⟩
  ·
   have hfin := hb5
   exact ret2 rfl HF (.cellS (i := 3) HF HM rfl rfl si_bk rfl) (.tmp HF rfl) (qb5 (b := ⟨2, 0, 0, (tkVal 281474976710657 l : Int), []⟩) (A := none) (c := 0) (by rw [qhg]; exact qjo hfin) (World.ownsRow_nil _ _ _ _) (Nat.le_refl _) HM.below)
  have hfin := hb5
  exact ret2 rfl HF (.cellS (i := 3) HF HM rfl rfl si_bk rfl) (.tmp HF rfl) (qbg (by rw [qhg]; exact Option.not_isSome_iff_eq_none.1 (by rw [hfin]; decide)) rfl (by simp [Value.oneCell']) HM.below)
 have hd18 := ne_of_beq_false hb18
 obtain rfl : k = 1 := by omega
 refine qe HF rfl (wp_skip (wp_seq (qa ?_)))
 refine fp HF 1 0 [(33, .func (.func 82) #[] #[vP g3 0, vP g6 0])] fun a HF => ?_
 refine fo HF 1 rfl rfl ?_
 replace HM := HM.picks (fs' := [.blk g3 #[.slice A n c] 54, .blk g6 #[.bool true] 4, .blk g8 #[vB (1 : Nat), vB 0, vI 0, vI 0, .slice none 0 0] 41, .blk g4 #[vB 0, vB 0, vI 0, vI 0, .slice none 0 0] 41]) [3, 1, 0, 2] (by decide) rfl
 have hl1 := zm hl
 refine qb7 HF (f := 82) (vs := [vI 63]) (fst := []) (caps := [vP g3 0, vP g6 0]) rfl rfl rfl (by kernel_rfl) rfl (by decide) (qck w _ g3 g6 A n c l true 63 [.blk g8 #[vB (1 : Nat), vB 0, vI 0, vI 0, .slice none 0 0] 41, .blk g4 #[vB 0, vB 0, vI 0, vI 0, .slice none 0 0] 41] hl hln (by omega) hr hc (by omega) HM) ?_
 rintro _ w34 ⟨rfl, Aq1, cq1, hr1, hc1, hm⟩
 refine ⟨_, rfl, ?_⟩
 replace HM := hm
 clear HF; intro a HF
 have ht0 := qcy 63 l
 have hs0 := qcj l
 refine fp HF 1 2 [(35, vB (IntKind.u8.wrap (tkVal 63 l : Int)))] fun a HF => ?_
 replace HF := HF.sp 35 (vB (tkVal 63 l)) rfl (qss rfl (by omega))
 refine fp HF 1 3 [(36, .func (.func 82) #[] #[vP g3 0, vP g6 0])] fun a HF => ?_
 refine fo HF 4 rfl rfl ?_
 replace HM := HM.picks (fs' := [.blk g3 #[.slice Aq1 ((qc l).length) cq1] 54, .blk g6 #[.bool (true && tkOk 63 l)] 4, .blk g8 #[vB (1 : Nat), vB 0, vI 0, vI 0, .slice none 0 0] 41, .blk g4 #[vB 0, vB 0, vI 0, vI 0, .slice none 0 0] 41]) [0, 1, 2, 3] (by decide) rfl
 have hl2 := zm hl1
 refine qb7 HF (f := 82) (vs := [vI 281474976710656]) (fst := []) (caps := [vP g3 0, vP g6 0]) rfl rfl rfl (by kernel_rfl) rfl (by decide) (qck w _ g3 g6 Aq1 ((qc l).length) cq1 (qc l) (true && tkOk 63 l) 281474976710656 [.blk g8 #[vB (1 : Nat), vB 0, vI 0, vI 0, .slice none 0 0] 41, .blk g4 #[vB 0, vB 0, vI 0, vI 0, .slice none 0 0] 41] hl1 rfl (by omega) hr1 hc1 (by omega) HM) ?_
 rintro _ w37 ⟨rfl, Aq2, cq2, hr2, hc2, hm⟩
 refine ⟨_, rfl, ?_⟩
 replace HM := hm
 clear HF; intro a HF
 have ht1 := qcy 281474976710656 (qc l)
 have hs1 := qcj (qc l)
 refine fp HF 1 5 [(38, vP g8 1)] fun a HF => ?_
 refine fo HF 6 rfl rfl ?_
 refine qq HF HM (i := 2) rfl rfl rfl rfl (by kernel_rfl) rfl rfl (by simp) ?_
 clear HM; intro w7_6 HM
 refine fp HF 1 7 [(39, vP g8 2)] fun a HF => ?_
 refine fo HF 8 rfl rfl ?_
 refine qq HF HM (i := 2) rfl rfl rfl rfl (by kernel_rfl) rfl rfl (by simp) ?_
 clear HM; intro w7_8 HM
 refine qb rfl (wp_seq (qa ?_))
 refine fp HF 1 0 [(40, .func (.func 82) #[] #[vP g3 0, vP g6 0])] fun a HF => ?_
 refine fo HF 1 rfl rfl ?_
 replace HM := HM.picks (fs' := [.blk g3 #[.slice Aq2 ((qc (qc l)).length) cq2] 54, .blk g6 #[.bool ((true && tkOk 63 l) && tkOk 281474976710656 (qc l))] 4, .blk g8 #[vB (1 : Nat), vB (tkVal 63 l), vI (tkVal 281474976710656 (qc l)), vI 0, .slice none 0 0] 41, .blk g4 #[vB 0, vB 0, vI 0, vI 0, .slice none 0 0] 41]) [0, 1, 2, 3] (by decide) rfl
 have hl3 := zm hl2
 refine qb7 HF (f := 82) (vs := [vI 4096]) (fst := []) (caps := [vP g3 0, vP g6 0]) rfl rfl rfl (by kernel_rfl) rfl (by decide) (qck w _ g3 g6 Aq2 ((qc (qc l)).length) cq2 (qc (qc l)) ((true && tkOk 63 l) && tkOk 281474976710656 (qc l)) 4096 [.blk g8 #[vB (1 : Nat), vB (tkVal 63 l), vI (tkVal 281474976710656 (qc l)), vI 0, .slice none 0 0] 41, .blk g4 #[vB 0, vB 0, vI 0, vI 0, .slice none 0 0] 41] hl2 rfl (by omega) hr2 hc2 (by omega) HM) ?_
 rintro _ w41 ⟨rfl, Aq3, cq3, hr3, hc3, hm⟩
 refine ⟨_, rfl, ?_⟩
 replace HM := hm
 clear HF; intro a HF
 have ht2 := qcy 4096 (qc (qc l))
 have hs2 := qcj (qc (qc l))
 refine fp HF 1 2 [(9, vI (tkVal 4096 (qc (qc l))))] fun a HF => ?_
 refine qb rfl (wp_seq (wp_seq (qa ?_)))
 refine fy HF HM 0 rfl rfl rfl (Yl.qi rfl rfl (by kernel_rfl) (fun _ h => h.cell (i := 1) rfl rfl)) fun a HF => ?_
 refine fp HF 1 1 [(43, .bool (((true && tkOk 63 l) && tkOk 281474976710656 (qc l)) && tkOk 4096 (qc (qc l))))] fun a HF => ?_
 rcases HF.tf 43 rfl with ⟨hb43, HF⟩ | ⟨hb43, HF⟩
 ·
  have h3 : qci l = true := by rw [← tk3]; exact hb43
  refine fp HF 3 2 [(46, .bool (decide ((tkVal 4096 (qc (qc l)) : Int) > (0 : Int))))] fun a HF => ?_
  refine qb rfl ?_
  rcases HF.tf 46 rfl with ⟨hb46, HF⟩ | ⟨hb46, HF⟩
  ·
   have hd46 := of_decide_eq_true hb46
   refine qf HF rfl (wp_seq (qa ?_))
   refine fp HF 1 0 [(47, .func (.func 82) #[] #[vP g3 0, vP g6 0])] fun a HF => ?_
   refine fo HF 1 rfl rfl ?_
   replace HM := HM.picks (fs' := [.blk g3 #[.slice Aq3 ((qc (qc (qc l))).length) cq3] 54, .blk g6 #[.bool (((true && tkOk 63 l) && tkOk 281474976710656 (qc l)) && tkOk 4096 (qc (qc l)))] 4, .blk g8 #[vB (1 : Nat), vB (tkVal 63 l), vI (tkVal 281474976710656 (qc l)), vI 0, .slice none 0 0] 41, .blk g4 #[vB 0, vB 0, vI 0, vI 0, .slice none 0 0] 41]) [0, 1, 2, 3] (by decide) rfl
   have hl4 := zm hl3
   refine qb7 HF (f := 82) (vs := [vI 281474976710656]) (fst := []) (caps := [vP g3 0, vP g6 0]) rfl rfl rfl (by kernel_rfl) rfl (by decide) (qck w _ g3 g6 Aq3 ((qc (qc (qc l))).length) cq3 (qc (qc (qc l))) (((true && tkOk 63 l) && tkOk 281474976710656 (qc l)) && tkOk 4096 (qc (qc l))) 281474976710656 [.blk g8 #[vB (1 : Nat), vB (tkVal 63 l), vI (tkVal 281474976710656 (qc l)), vI 0, .slice none 0 0] 41, .blk g4 #[vB 0, vB 0, vI 0, vI 0, .slice none 0 0] 41] hl3 rfl (by omega) hr3 hc3 (by omega) HM) ?_
   rintro _ w48 ⟨rfl, Aq4, cq4, hr4, hc4, hm⟩
   refine ⟨_, rfl, ?_⟩
   replace HM := hm
   clear HF; intro a HF
   have ht3 := qcy 281474976710656 (qc (qc (qc l)))
   have hs3 := qcj (qc (qc (qc l)))
   refine fp HF 1 2 [(49, .func (.func 82) #[] #[vP g3 0, vP g6 0])] fun a HF => ?_
   refine fo HF 3 rfl rfl ?_
   replace HM := HM.picks (fs' := [.blk g3 #[.slice Aq4 ((qc (qc (qc (qc l)))).length) cq4] 54, .blk g6 #[.bool ((((true && tkOk 63 l) && tkOk 281474976710656 (qc l)) && tkOk 4096 (qc (qc l))) && tkOk 281474976710656 (qc (qc (qc l))))] 4, .blk g8 #[vB (1 : Nat), vB (tkVal 63 l), vI (tkVal 281474976710656 (qc l)), vI 0, .slice none 0 0] 41, .blk g4 #[vB 0, vB 0, vI 0, vI 0, .slice none 0 0] 41]) [0, 1, 2, 3] (by decide) rfl
   have hl5 := zm hl4
   refine qb7 HF (f := 82) (vs := [vI 281474976710656]) (fst := []) (caps := [vP g3 0, vP g6 0]) rfl rfl rfl (by kernel_rfl) rfl (by decide) (qck w _ g3 g6 Aq4 ((qc (qc (qc (qc l)))).length) cq4 (qc (qc (qc (qc l)))) ((((true && tkOk 63 l) && tkOk 281474976710656 (qc l)) && tkOk 4096 (qc (qc l))) && tkOk 281474976710656 (qc (qc (qc l)))) 281474976710656 [.blk g8 #[vB (1 : Nat), vB (tkVal 63 l), vI (tkVal 281474976710656 (qc l)), vI 0, .slice none 0 0] 41, .blk g4 #[vB 0, vB 0, vI 0, vI 0, .slice none 0 0] 41] hl4 rfl (by omega) hr4 hc4 (by omega) HM) ?_
   rintro _ w50 ⟨rfl, Aq5, cq5, hr5, hc5, hm⟩
   refine ⟨_, rfl, ?_⟩
   replace HM := hm
   clear HF; intro a HF
   have ht4 := qcy 281474976710656 (qc (qc (qc (qc l))))
   have hs4 := qcj (qc (qc (qc (qc l))))
   refine fy HF HM 4 rfl rfl rfl (v := .agg #[vI (tkVal 281474976710656 (qc (qc (qc l)))), vI (tkVal 281474976710656 (qc (qc (qc (qc l)))))]) (Yl.build (vs := [(0, vI (tkVal 281474976710656 (qc (qc (qc l))))), (1, vI (tkVal 281474976710656 (qc (qc (qc (qc l))))))]) rfl (by kernel_rfl) (by kernel_rfl)) fun a HF => ?_
   refine fo HF 5 rfl rfl ?_
   refine qp HF HM (cs := #[vI 0, vI 0]) rfl (by kernel_rfl) rfl (by decide) ?_
   clear HF HM; intro a w10 g10 HF HM
   refine fo HF 6 rfl rfl ?_
   refine e_sa HF HM 0 rfl rfl rfl rfl rfl ⟨(by kernel_rfl), (by kernel_rfl)⟩ rfl rfl (by simp [Value.oneCell']) ?_
   clear HM; intro w10_6 HM
   refine qb rfl ?_
   obtain ⟨es, L, er, hq⟩ : ∃ es L er, readR ⟨(tkVal 281474976710656 (qc (qc (qc l))) : Int), (tkVal 281474976710656 (qc (qc (qc (qc l)))) : Int)⟩ (tkVal 63 l) (tkVal 4096 (qc (qc l)) : Int) (qc (qc (qc (qc (qc l))))) = (es, L, er) := ⟨_, _, _, rfl⟩
   refine wp_seq (qa ?_)
   refine fy HF HM 0 rfl rfl rfl (v := .agg #[vI (tkVal 281474976710656 (qc (qc (qc l)))), vI (tkVal 281474976710656 (qc (qc (qc (qc l)))))]) (Yl.zg rfl rfl ⟨(by kernel_rfl), (by kernel_rfl)⟩ rfl (fun _ h => qd (h.blk (i := 0) rfl))) fun a HF => ?_
   refine fp HF 1 1 [(54, vP g8 1)] fun a HF => ?_
   refine fy HF HM 2 rfl rfl rfl (Yl.qi rfl rfl (by kernel_rfl) (fun _ h => h.cell (i := 3) rfl rfl)) fun a HF => ?_
   refine fp HF 1 3 [(56, vI (tkVal 4096 (qc (qc l))))] fun a HF => ?_
   refine fy HF HM 4 rfl rfl rfl (Yl.qi rfl rfl (by kernel_rfl) (fun _ h => h.cell (i := 1) rfl rfl)) fun a HF => ?_
   refine fo HF 5 rfl rfl ?_
   refine e_cl HF [.agg #[vI (tkVal 281474976710656 (qc (qc (qc l)))), vI (tkVal 281474976710656 (qc (qc (qc (qc l)))))], vB (tkVal 63 l), vI (tkVal 4096 (qc (qc l))), .slice Aq5 ((qc (qc (qc (qc (qc l))))).length) cq5] rfl rfl (qtm ⟨(tkVal 281474976710656 (qc (qc (qc l))) : Int), (tkVal 281474976710656 (qc (qc (qc (qc l)))) : Int)⟩ (tkVal 63 l) (by omega) Aq5 ((qc (qc (qc (qc (qc l))))).length) cq5 (tkVal 4096 (qc (qc l)) : Int) (by unfold I64; omega) (qc (qc (qc (qc (qc l))))) B _ (hL.mem HM hB).laid (HM.le hB) (HM.old hr5) hc5 hl5 (by omega) (.inl (by omega)) hq) ?_
   rintro _ w58 ⟨⟨A58, c58, rfl, ho, hc58⟩, hbw⟩
   refine ⟨_, rfl, ?_⟩
   replace HM := HM.callRow hbw ho
   clear HF; intro a HF
   refine fp HF 7 6 [(13, vI er), (12, vI L), (11, .slice A58 es.length c58)] fun a HF => ?_
   refine qb rfl (wp_seq ?_)
   refine qay (fun aS wS => Fr aS 99 [] [(81, .bool (!(decide (er = 0 ∧ (es.getD 0 Ev.zero).seq = (tkVal 281474976710656 (qc (qc (qc l))) : Int) ∧ (es.getD 0 Ev.zero).time = (tkVal 281474976710656 (qc (qc (qc (qc l)))) : Int))))), (12, vI L), (11, .slice A58 es.length c58), (10, vP g10 0), (46, .bool true), (9, vI (tkVal 4096 (qc (qc l)))), (18, .bool false), (8, vP g8 0), (7, .func (.func 82) #[] #[vP g3 0, vP g6 0]), (6, vP g6 0), (5, .bool false), (4, vP g4 0), (3, vP g3 0), (0, vB (1 : Nat))] ∧ Mem w wS [.row (.slice A58 es.length c58) es.length (es.flatMap evL) 45 11, .blk g10 #[vI (tkVal 281474976710656 (qc (qc (qc l)))), vI (tkVal 281474976710656 (qc (qc (qc (qc l)))))] 26, .blk g3 #[.slice Aq5 ((qc (qc (qc (qc (qc l))))).length) cq5] 54, .blk g6 #[.bool (((((true && tkOk 63 l) && tkOk 281474976710656 (qc l)) && tkOk 4096 (qc (qc l))) && tkOk 281474976710656 (qc (qc (qc l)))) && tkOk 281474976710656 (qc (qc (qc (qc l)))))] 4, .blk g8 #[vB (1 : Nat), vB (tkVal 63 l), vI (tkVal 281474976710656 (qc l)), vI 0, .slice none 0 0] 41, .blk g4 #[vB 0, vB 0, vI 0, vI 0, .slice none 0 0] 41]) ?_ ?_
   ·
    refine qae HM [.row (.slice A58 es.length c58) es.length (es.flatMap evL) 45 11, .blk g10 #[vI (tkVal 281474976710656 (qc (qc (qc l)))), vI (tkVal 281474976710656 (qc (qc (qc (qc l)))))] 26, .blk g3 #[.slice Aq5 ((qc (qc (qc (qc (qc l))))).length) cq5] 54, .blk g6 #[.bool (((((true && tkOk 63 l) && tkOk 281474976710656 (qc l)) && tkOk 4096 (qc (qc l))) && tkOk 281474976710656 (qc (qc (qc l)))) && tkOk 281474976710656 (qc (qc (qc (qc l)))))] 4, .blk g8 #[vB (1 : Nat), vB (tkVal 63 l), vI (tkVal 281474976710656 (qc l)), vI 0, .slice none 0 0] 41, .blk g4 #[vB 0, vB 0, vI 0, vI 0, .slice none 0 0] 41] [0, 1, 2, 3, 4, 5] [] fun HM HS => ?_
    refine ap HF (fun _ => HS) [0, 1, 2] #[true, true, true, false, false, false, false, false, false, false, false, false, false, false, false, false, false, false, false, false] [(64, .bool ((er : Int) != (0 : Int)))] fun a HF => ?_
    rcases HF.tf 64 rfl with ⟨hb64, HF⟩ | ⟨hb64, HF⟩
    ·
     have hd64 := bne_iff_ne.1 hb64
     refine ap HF (fun _ => HS) [3, 4, 5, 6, 7, 8, 9, 10, 11, 12, 13, 14, 15, 16, 17, 18, 19] #[true, true, true, true, true, true, true, true, true, true, true, true, true, true, true, true, true, true, true, true] [(81, .bool true)] fun a HF => ?_
     refine qn (by kernel_rfl) ?_
     have HF := HF.as (t := 81) (u := .bool (!(decide (er = 0 ∧ (es.getD 0 Ev.zero).seq = (tkVal 281474976710656 (qc (qc (qc l))) : Int) ∧ (es.getD 0 Ev.zero).time = (tkVal 281474976710656 (qc (qc (qc (qc l)))) : Int))))) rfl (congrArg Value.bool (by rw [decide_eq_false (by omega)]; rfl))
     exact ⟨HF.sub (by kernel_rfl), HM.picks [0, 1, 2, 3, 4, 5] (by decide) rfl⟩
    have hd64 := bne_eq_false_iff_eq.1 hb64
    have her : er = 0 := by omega
    have hq0 := hq; rw [her] at hq0; obtain ⟨rw1, rw2, rw3, rw4, rw5⟩ := qe8 (cpu := tkVal 63 l) (by omega) hl5 hq0
    refine ap HF (fun _ => HS) [3, 7] #[true, true, true, true, false, false, false, true, false, false, false, false, false, false, false, false, false, false, false, false] [(69, vP g10 0), (65, .slice A58 es.length c58)] fun a HF => ?_
    obtain ⟨gA58, rfl⟩ := qbp (HM.own (i := 0) rfl) (Nat.lt_of_le_of_lt (Nat.zero_le _) (show 0 < es.length from by omega))
    refine ay HF HS 4 rfl rfl rfl (v := vP gA58 0) (Yl.indexAddr (ad := ⟨gA58, 0, none⟩) (y := 0) (sz := 11) rfl rfl rfl (by omega) (by kernel_rfl)) fun a HF => ?_
    refine ap HF (fun _ => HS) [5] #[true, true, true, true, true, true, false, true, false, false, false, false, false, false, false, false, false, false, false, false] [(67, vP gA58 0)] fun a HF => ?_
    refine ay HF HS 6 rfl rfl rfl (v := vI ((es.getD 0 Ev.zero).seq)) (Yl.qi rfl rfl (by kernel_rfl) (fun _ h => (by have := h.qdg zw (i := 0) rfl (k := 0) (off := 0) (x := (es.getD 0 Ev.zero)) ((getD_at Ev.zero (k := 0) (by first | omega | (simp; omega)))) rfl; simpa using this))) fun a HF => ?_
    refine ay HF HS 8 rfl rfl rfl (Yl.qi rfl rfl (by kernel_rfl) (fun _ h => h.cell (i := 1) rfl rfl)) fun a HF => ?_
    refine ap HF (fun _ => HS) [9, 10, 11] #[true, true, true, true, true, true, true, true, true, true, true, true, false, false, false, false, false, false, false, false] [(73, .bool (((es.getD 0 Ev.zero).seq : Int) != (tkVal 281474976710656 (qc (qc (qc l))) : Int)))] fun a HF => ?_
    rcases HF.tf 73 rfl with ⟨hb73, HF⟩ | ⟨hb73, HF⟩
    ·
     have hd73 := bne_iff_ne.1 hb73
     refine ap HF (fun _ => HS) [12, 13, 14, 15, 16, 17, 18, 19] #[true, true, true, true, true, true, true, true, true, true, true, true, true, true, true, true, true, true, true, true] [(81, .bool true)] fun a HF => ?_
     refine qn (by kernel_rfl) ?_
     replace HF := HF.to [(81, .bool true), (12, vI L), (11, vS gA58 es.length c58), (10, vP g10 0), (46, .bool true), (9, vI (tkVal 4096 (qc (qc l)))), (18, .bool false), (8, vP g8 0), (7, .func (.func 82) #[] #[vP g3 0, vP g6 0]), (6, vP g6 0), (5, .bool false), (4, vP g4 0), (3, vP g3 0), (0, vB (1 : Nat))]
     have HF := HF.as (t := 81) (u := .bool (!(decide (er = 0 ∧ (es.getD 0 Ev.zero).seq = (tkVal 281474976710656 (qc (qc (qc l))) : Int) ∧ (es.getD 0 Ev.zero).time = (tkVal 281474976710656 (qc (qc (qc (qc l)))) : Int))))) rfl (congrArg Value.bool (by rw [decide_eq_false (by omega)]; rfl))
     exact ⟨HF.sub (by kernel_rfl), HM.picks [0, 1, 2, 3, 4, 5] (by decide) rfl⟩
    have hd73 := bne_eq_false_iff_eq.1 hb73
    refine ap HF (fun _ => HS) [12, 16] #[true, true, true, true, true, true, true, true, true, true, true, true, true, false, false, false, true, false, false, false] [(78, vP g10 1), (74, vS gA58 es.length c58)] fun a HF => ?_
    refine ay HF HS 13 rfl rfl rfl (v := vP gA58 0) (Yl.indexAddr (ad := ⟨gA58, 0, none⟩) (y := 0) (sz := 11) rfl rfl rfl (by omega) (by kernel_rfl)) fun a HF => ?_
    refine ap HF (fun _ => HS) [14] #[true, true, true, true, true, true, true, true, true, true, true, true, true, true, true, false, true, false, false, false] [(76, vP gA58 1)] fun a HF => ?_
    refine ay HF HS 15 rfl rfl rfl (v := vI ((es.getD 0 Ev.zero).time)) (Yl.qi rfl rfl (by kernel_rfl) (fun _ h => h.qdg zw (i := 0) rfl (k := 0) (off := 1) (x := (es.getD 0 Ev.zero)) ((getD_at Ev.zero (k := 0) (by first | omega | (simp; omega)))) rfl)) fun a HF => ?_
    refine ay HF HS 17 rfl rfl rfl (Yl.qi rfl rfl (by kernel_rfl) (fun _ h => h.cell (i := 1) rfl rfl)) fun a HF => ?_
    refine ap HF (fun _ => HS) [18, 19] #[true, true, true, true, true, true, true, true, true, true, true, true, true, true, true, true, true, true, true, true] [(81, .bool (((es.getD 0 Ev.zero).time : Int) != (tkVal 281474976710656 (qc (qc (qc (qc l)))) : Int)))] fun a HF => ?_
    refine qn (by kernel_rfl) ?_
    replace HF := HF.to [(81, .bool (((es.getD 0 Ev.zero).time : Int) != (tkVal 281474976710656 (qc (qc (qc (qc l)))) : Int))), (12, vI L), (11, vS gA58 es.length c58), (10, vP g10 0), (46, .bool true), (9, vI (tkVal 4096 (qc (qc l)))), (18, .bool false), (8, vP g8 0), (7, .func (.func 82) #[] #[vP g3 0, vP g6 0]), (6, vP g6 0), (5, .bool false), (4, vP g4 0), (3, vP g3 0), (0, vB (1 : Nat))]
    have HF := HF.as (t := 81) (u := .bool (!(decide (er = 0 ∧ (es.getD 0 Ev.zero).seq = (tkVal 281474976710656 (qc (qc (qc l))) : Int) ∧ (es.getD 0 Ev.zero).time = (tkVal 281474976710656 (qc (qc (qc (qc l)))) : Int))))) rfl (congrArg Value.bool (by rw [Bool.eq_iff_iff, bne_iff_ne, Bool.not_eq_true', decide_eq_false_iff_not]; omega))
    exact ⟨HF.sub (by kernel_rfl), HM.picks [0, 1, 2, 3, 4, 5] (by decide) rfl⟩
   clear HF HM; rintro a w12 ⟨HF, HM⟩
   rcases HF.tf 81 rfl with ⟨hb81, HF⟩ | ⟨hb81, HF⟩
   ·
    have hd81 := of_decide_eq_false ((Bool.not_eq_true' _).mp hb81)
    have hz : ¬ (er = 0 ∧ (es.getD 0 Ev.zero).seq = (tkVal 281474976710656 (qc (qc (qc l))) : Int) ∧ (es.getD 0 Ev.zero).time = (tkVal 281474976710656 (qc (qc (qc (qc l)))) : Int)) := fun hh => by rw [decide_eq_true hh] at hb81; cases hb81
    refine qf HF rfl (wp_seq (qa ?_))
    refine fy HF HM 0 rfl rfl rfl (v := .agg #[vB 0, vB 0, vI 0, vI 0, .slice none 0 0]) (Yl.build (vs := []) rfl (by kernel_rfl) (by kernel_rfl)) fun a HF => ?_
    refine fo HF 1 rfl rfl ?_
    refine e_sa HF HM 5 rfl rfl rfl rfl rfl si_bk rfl rfl (by simp [Value.oneCell']) ?_
    clear HM; intro w13_1 HM
    refine fp HF 1 2 [(5, .bool false)] fun a HF => ?_
    refine qb rfl (wp_ret ?_)
    exact ret2 rfl HF (.cellS (i := 5) HF HM rfl rfl si_bk rfl) (.tmp HF rfl) (qbg (by rw [qa8, qen h3 (by omega) hq]; exact qdw (fun hh => hz ⟨hh.1, hh.2.1, hh.2.2.1⟩)) rfl (by simp [Value.oneCell']) HM.below)
   have hd81 := of_decide_eq_true ((Bool.not_eq_false' _).mp hb81)
   have hz : er = 0 ∧ (es.getD 0 Ev.zero).seq = (tkVal 281474976710656 (qc (qc (qc l))) : Int) ∧ (es.getD 0 Ev.zero).time = (tkVal 281474976710656 (qc (qc (qc (qc l)))) : Int) := Decidable.byContradiction fun hh => by rw [decide_eq_false hh] at hb81; cases hb81
   have her := hz.1
   have hq0 := hq; rw [her] at hq0; obtain ⟨rw1, rw2, rw3, rw4, rw5⟩ := qe8 (cpu := tkVal 63 l) (by omega) hl5 hq0
   refine qe HF rfl (wp_skip ?_)
   refine qae HM [.row (.slice A58 es.length c58) es.length (es.flatMap evL) 45 11, .blk g10 #[vI (tkVal 281474976710656 (qc (qc (qc l)))), vI (tkVal 281474976710656 (qc (qc (qc (qc l)))))] 26, .blk g3 #[.slice Aq5 ((qc (qc (qc (qc (qc l))))).length) cq5] 54, .blk g6 #[.bool (((((true && tkOk 63 l) && tkOk 281474976710656 (qc l)) && tkOk 4096 (qc (qc l))) && tkOk 281474976710656 (qc (qc (qc l)))) && tkOk 281474976710656 (qc (qc (qc (qc l)))))] 4, .blk g4 #[vB 0, vB 0, vI 0, vI 0, .slice none 0 0] 41] [0, 1, 2, 3, 5] [6] fun HM HS => ?_
   refine ap HF (fun _ => HS) [0, 2, 4] #[true, false, true, false, true, false, false] [(87, vP g8 4), (85, vI L), (83, .slice A58 es.length c58)] fun a HF => ?_
   refine ay HF HS 1 rfl rfl rfl (Yl.qi rfl rfl (by kernel_rfl) (fun _ h => h.cell (i := 2) rfl rfl)) fun a HF => ?_
   refine ay HF HS 3 rfl rfl rfl (v := .slice (if cq5 = L then Aq5 else Aq5.map (·.add (L * 1))) (((qc (qc (qc (qc (qc l))))).length) - L) (cq5 - L)) (Yl.sliceFrom ei_u8 (j := L) rfl rfl rfl (by omega)) fun a HF => ?_
   refine qg [5] (by kernel_rfl) rfl ?_
   refine all_cons ?_ all_nil
   refine qj HF (i := 5) rfl rfl ?_
   refine qq HF HM (i := 4) rfl rfl rfl rfl (by kernel_rfl) rfl rfl (by simp) ?_
   clear HM; intro w14_5 HM
   refine keepS (HM.picks [0, 1, 2, 3, 5] (by decide) rfl) (fun HS => ?_)
   refine qg [6] (by kernel_rfl) rfl ?_
   refine all_cons ?_ all_nil
   refine qj HF (i := 6) rfl rfl ?_
   refine qq HF HM (i := 2) rfl rfl rfl rfl (by kernel_rfl) rfl rfl (by simp) ?_
   clear HM; intro w14_6 HM
   refine noS (by kernel_rfl) ?_
   refine qn (by kernel_rfl) ?_
   refine qay (fun aS wS => Fr aS 99 [] [(5, .bool ((zd l).isSome)), (81, .bool false), (11, .slice A58 es.length c58), (10, vP g10 0), (46, .bool true), (9, vI (tkVal 4096 (qc (qc l)))), (18, .bool false), (8, vP g8 0), (7, .func (.func 82) #[] #[vP g3 0, vP g6 0]), (6, vP g6 0), (4, vP g4 0), (3, vP g3 0), (0, vB (1 : Nat))] ∧ Mem w wS [.row (.slice A58 es.length c58) es.length (es.flatMap evL) 45 11, .blk g10 #[vI (tkVal 281474976710656 (qc (qc (qc l)))), vI (tkVal 281474976710656 (qc (qc (qc (qc l)))))] 26, .blk g3 #[.slice (if cq5 = L then Aq5 else Aq5.map (·.add (L * 1))) (((qc (qc (qc (qc (qc l))))).length) - L) (cq5 - L)] 54, .blk g6 #[.bool (((((true && tkOk 63 l) && tkOk 281474976710656 (qc l)) && tkOk 4096 (qc (qc l))) && tkOk 281474976710656 (qc (qc (qc l)))) && tkOk 281474976710656 (qc (qc (qc (qc l)))))] 4, .blk g8 #[vB (1 : Nat), vB (tkVal 63 l), vI (tkVal 281474976710656 (qc l)), vI 0, .slice A58 es.length c58] 41, .blk g4 #[vB (1 : Nat), vB (tkVal 63 l), vI (tkVal 281474976710656 (qc l)), vI 0, .slice A58 es.length c58] 41]) ?_ ?_
   ·
    refine qae HM [.row (.slice A58 es.length c58) es.length (es.flatMap evL) 45 11, .blk g10 #[vI (tkVal 281474976710656 (qc (qc (qc l)))), vI (tkVal 281474976710656 (qc (qc (qc (qc l)))))] 26, .blk g3 #[.slice (if cq5 = L then Aq5 else Aq5.map (·.add (L * 1))) (((qc (qc (qc (qc (qc l))))).length) - L) (cq5 - L)] 54, .blk g6 #[.bool (((((true && tkOk 63 l) && tkOk 281474976710656 (qc l)) && tkOk 4096 (qc (qc l))) && tkOk 281474976710656 (qc (qc (qc l)))) && tkOk 281474976710656 (qc (qc (qc (qc l)))))] 4, .blk g8 #[vB (1 : Nat), vB (tkVal 63 l), vI (tkVal 281474976710656 (qc l)), vI 0, .slice A58 es.length c58] 41] [0, 1, 2, 3, 4] [] fun HM HS => ?_
    refine ay HF HS 0 rfl rfl rfl (v := .agg #[vB (1 : Nat), vB (tkVal 63 l), vI (tkVal 281474976710656 (qc l)), vI 0, .slice A58 es.length c58]) (Yl.zg rfl rfl si_bk rfl (fun _ h => qd (h.blk (i := 4) rfl))) fun a HF => ?_
    refine ay HF HS 1 rfl rfl rfl (Yl.qi rfl rfl (by kernel_rfl) (fun _ h => h.cell (i := 3) rfl rfl)) fun a HF => ?_
    refine ap HF (fun _ => HS) [2] #[true, true, true, false, false, false, false, false, false, false, false, false, false] [(90, .bool (((((true && tkOk 63 l) && tkOk 281474976710656 (qc l)) && tkOk 4096 (qc (qc l))) && tkOk 281474976710656 (qc (qc (qc l)))) && tkOk 281474976710656 (qc (qc (qc (qc l))))))] fun a HF => ?_
    rcases HF.tf 90 rfl with ⟨hb90, HF⟩ | ⟨hb90, HF⟩
    ·
     refine ay HF HS 3 rfl rfl rfl (Yl.qi rfl rfl (by kernel_rfl) (fun _ h => h.cell (i := 2) rfl rfl)) fun a HF => ?_
     refine ay HF HS 4 rfl rfl rfl (Yl.len rfl rfl (by kernel_rfl)) fun a HF => ?_
     refine ap HF (fun _ => HS) [5, 6, 7] #[true, true, true, true, true, true, true, true, false, false, false, false, false] [(95, .bool (((((qc (qc (qc (qc (qc l))))).length) - L : Nat) : Int) == (0 : Int)))] fun a HF => ?_
     rcases HF.tf 95 rfl with ⟨hb95, HF⟩ | ⟨hb95, HF⟩
     ·
      have hd95 := eq_of_beq hb95
      refine ay HF HS 8 rfl rfl rfl (v := .agg #[vB (1 : Nat), vB (tkVal 63 l), vI (tkVal 281474976710656 (qc l)), vI 0, .slice A58 es.length c58]) (Yl.zg rfl rfl si_bk rfl (fun _ h => qd (h.blk (i := 4) rfl))) fun a HF => ?_
      refine qg [9] (by kernel_rfl) rfl ?_
      refine all_cons ?_ all_nil
      refine qj HF (i := 9) rfl rfl ?_
      refine e_is HF HM [.agg #[vB (1 : Nat), vB (tkVal 63 l), vI (tkVal 281474976710656 (qc l)), vI 0, .slice A58 es.length c58]] (.bool (Bk.fits ⟨1, tkVal 63 l, (tkVal 281474976710656 (qc l) : Int), 0, es⟩)) rfl rfl (qdn ⟨1, tkVal 63 l, (tkVal 281474976710656 (qc l) : Int), 0, es⟩ (evsOk (by omega) (by omega) (fun e he => (rw5 e he).1)) A58 c58 B _ (hL.mem HM hB) (HM.le hB) (HM.rd (i := 0) rfl) (by show es.length ≤ _; omega)) fun w97 hbw HM a HF => ?_
      refine keepS (HM.picks [0, 1, 2, 3, 4] (by decide) rfl) (fun HS => ?_)
      refine ap HF (fun _ => HS) [10] #[true, true, true, true, true, true, true, true, true, true, true, false, false] [(98, .bool (Bk.fits ⟨1, tkVal 63 l, (tkVal 281474976710656 (qc l) : Int), 0, es⟩))] fun a HF => ?_
      refine qg [11] (by kernel_rfl) rfl ?_
      refine all_cons ?_ all_nil
      refine qj HF (i := 11) rfl rfl ?_
      refine e_sa HF HM 5 rfl rfl rfl rfl rfl si_bk rfl rfl (by simp [Value.oneCell']) ?_
      clear HM; intro w15_11 HM
      refine keepS (HM.picks [0, 1, 2, 3, 4] (by decide) rfl) (fun HS => ?_)
      refine ap HF (fun _ => HS) [12] #[true, true, true, true, true, true, true, true, true, true, true, true, true] [(5, .bool (Bk.fits ⟨1, tkVal 63 l, (tkVal 281474976710656 (qc l) : Int), 0, es⟩))] fun a HF => ?_
      refine qn (by kernel_rfl) ?_
      have HF := HF.as (t := 5) (u := .bool ((zd l).isSome)) rfl (congrArg Value.bool (by rw [qie h3 (by omega) hq her, qk3 ⟨hz.2.1, hz.2.2⟩, show (tkOk 281474976710656 (qc (qc (qc l))) && tkOk 281474976710656 (qc (qc (qc (qc l))))) = true by have h9 := hb90; rw [tk5 (l := l), tk3, h3, Bool.true_and] at h9; exact h9, decide_eq_true (by omega), Bool.true_and, Bool.true_and]))
      exact ⟨HF.sub (by kernel_rfl), HM.picks [0, 1, 2, 3, 4, 5] (by decide) rfl⟩
     have hd95 := ne_of_beq_false hb95
     refine ap HF (fun _ => HS) [8, 9, 10] #[true, true, true, true, true, true, true, true, true, true, true, false, false] [(98, .bool false)] fun a HF => ?_
     refine qg [11] (by kernel_rfl) rfl ?_
     refine all_cons ?_ all_nil
     refine qj HF (i := 11) rfl rfl ?_
     refine e_sa HF HM 5 rfl rfl rfl rfl rfl si_bk rfl rfl (by simp [Value.oneCell']) ?_
     clear HM; intro w15_11 HM
     refine keepS (HM.picks [0, 1, 2, 3, 4] (by decide) rfl) (fun HS => ?_)
     refine ap HF (fun _ => HS) [12] #[true, true, true, true, true, true, true, true, true, true, true, true, true] [(5, .bool false)] fun a HF => ?_
     refine qn (by kernel_rfl) ?_
     have HF := HF.as (t := 5) (u := .bool ((zd l).isSome)) rfl (congrArg Value.bool (by rw [qie h3 (by omega) hq her, qk3 ⟨hz.2.1, hz.2.2⟩, decide_eq_false (by omega), Bool.false_and, Bool.and_false]))
     exact ⟨HF.sub (by kernel_rfl), HM.picks [0, 1, 2, 3, 4, 5] (by decide) rfl⟩
    refine ap HF (fun _ => HS) [3, 4, 5, 6, 7, 8, 9, 10] #[true, true, true, true, true, true, true, true, true, true, true, false, false] [(98, .bool false)] fun a HF => ?_
    refine qg [11] (by kernel_rfl) rfl ?_
    refine all_cons ?_ all_nil
    refine qj HF (i := 11) rfl rfl ?_
    refine e_sa HF HM 5 rfl rfl rfl rfl rfl si_bk rfl rfl (by simp [Value.oneCell']) ?_
    clear HM; intro w15_11 HM
    refine keepS (HM.picks [0, 1, 2, 3, 4] (by decide) rfl) (fun HS => ?_)
    refine ap HF (fun _ => HS) [12] #[true, true, true, true, true, true, true, true, true, true, true, true, true] [(5, .bool false)] fun a HF => ?_
    refine qn (by kernel_rfl) ?_
    have HF := HF.as (t := 5) (u := .bool ((zd l).isSome)) rfl (congrArg Value.bool (by rw [qie h3 (by omega) hq her, qk3 ⟨hz.2.1, hz.2.2⟩, show (tkOk 281474976710656 (qc (qc (qc l))) && tkOk 281474976710656 (qc (qc (qc (qc l))))) = false by have h9 := hb90; rw [tk5 (l := l), tk3, h3, Bool.true_and] at h9; exact h9, Bool.false_and]))
    exact ⟨HF.sub (by kernel_rfl), HM.picks [0, 1, 2, 3, 4, 5] (by decide) rfl⟩
   clear HF HM; rintro a w15 ⟨HF, HM⟩
   refine wp_ret ?_
   rcases HF.tf 5 rfl with ⟨hb5, HF⟩ | ⟨hb5, HF⟩
   ·
    have hfin := hb5
    exact ret2 rfl HF (.cellS (i := 5) HF HM rfl rfl si_bk rfl) (.tmp HF rfl) (qb5 (b := ⟨1, tkVal 63 l, (tkVal 281474976710656 (qc l) : Int), 0, es⟩) (A := A58) (c := c58) (by rw [qa8]; rw [qie h3 (by omega) hq her] at hfin ⊢; exact qrt hfin) (HM.own (i := 0) rfl) hc58 HM.below)
   have hfin := hb5
   exact ret2 rfl HF (.cellS (i := 5) HF HM rfl rfl si_bk rfl) (.tmp HF rfl) (qbg (by rw [qa8]; exact Option.not_isSome_iff_eq_none.1 (by rw [hfin]; decide)) rfl (by simp [Value.oneCell']) HM.below)
  have hd46 := of_decide_eq_false hb46
  refine qe HF rfl (wp_skip ?_)
  refine qay (fun aS wS => Fr aS 99 [] [(5, .bool ((zd l).isSome)), (46, .bool false), (9, vI (tkVal 4096 (qc (qc l)))), (18, .bool false), (8, vP g8 0), (7, .func (.func 82) #[] #[vP g3 0, vP g6 0]), (6, vP g6 0), (4, vP g4 0), (3, vP g3 0), (0, vB (1 : Nat))] ∧ Mem w wS [.blk g3 #[.slice Aq3 ((qc (qc (qc l))).length) cq3] 54, .blk g6 #[.bool (((true && tkOk 63 l) && tkOk 281474976710656 (qc l)) && tkOk 4096 (qc (qc l)))] 4, .blk g8 #[vB (1 : Nat), vB (tkVal 63 l), vI (tkVal 281474976710656 (qc l)), vI 0, .slice none 0 0] 41, .blk g4 #[vB (1 : Nat), vB (tkVal 63 l), vI (tkVal 281474976710656 (qc l)), vI 0, .slice none 0 0] 41]) ?_ ?_
  ·
   refine qae HM [.blk g3 #[.slice Aq3 ((qc (qc (qc l))).length) cq3] 54, .blk g6 #[.bool (((true && tkOk 63 l) && tkOk 281474976710656 (qc l)) && tkOk 4096 (qc (qc l)))] 4, .blk g8 #[vB (1 : Nat), vB (tkVal 63 l), vI (tkVal 281474976710656 (qc l)), vI 0, .slice none 0 0] 41] [0, 1, 2] [] fun HM HS => ?_
   refine ay HF HS 0 rfl rfl rfl (v := .agg #[vB (1 : Nat), vB (tkVal 63 l), vI (tkVal 281474976710656 (qc l)), vI 0, .slice none 0 0]) (Yl.zg rfl rfl si_bk rfl (fun _ h => qd (h.blk (i := 2) rfl))) fun a HF => ?_
   refine ay HF HS 1 rfl rfl rfl (Yl.qi rfl rfl (by kernel_rfl) (fun _ h => h.cell (i := 1) rfl rfl)) fun a HF => ?_
   refine ap HF (fun _ => HS) [2] #[true, true, true, false, false, false, false, false, false, false, false, false, false] [(90, .bool (((true && tkOk 63 l) && tkOk 281474976710656 (qc l)) && tkOk 4096 (qc (qc l))))] fun a HF => ?_
   rcases HF.tf 90 rfl with ⟨hb90, HF⟩ | ⟨hb90, HF⟩
   ·
    refine ay HF HS 3 rfl rfl rfl (Yl.qi rfl rfl (by kernel_rfl) (fun _ h => h.cell (i := 0) rfl rfl)) fun a HF => ?_
    refine ay HF HS 4 rfl rfl rfl (Yl.len rfl rfl (by kernel_rfl)) fun a HF => ?_
    refine ap HF (fun _ => HS) [5, 6, 7] #[true, true, true, true, true, true, true, true, false, false, false, false, false] [(95, .bool ((((qc (qc (qc l))).length : Nat) : Int) == (0 : Int)))] fun a HF => ?_
    rcases HF.tf 95 rfl with ⟨hb95, HF⟩ | ⟨hb95, HF⟩
    ·
     have hd95 := eq_of_beq hb95
     refine ay HF HS 8 rfl rfl rfl (v := .agg #[vB (1 : Nat), vB (tkVal 63 l), vI (tkVal 281474976710656 (qc l)), vI 0, .slice none 0 0]) (Yl.zg rfl rfl si_bk rfl (fun _ h => qd (h.blk (i := 2) rfl))) fun a HF => ?_
     refine qg [9] (by kernel_rfl) rfl ?_
     refine all_cons ?_ all_nil
     refine qj HF (i := 9) rfl rfl ?_
     refine e_is HF HM [.agg #[vB (1 : Nat), vB (tkVal 63 l), vI (tkVal 281474976710656 (qc l)), vI 0, .slice none 0 0]] (.bool (Bk.fits ⟨1, tkVal 63 l, (tkVal 281474976710656 (qc l) : Int), 0, []⟩)) rfl rfl (qdn ⟨1, tkVal 63 l, (tkVal 281474976710656 (qc l) : Int), 0, []⟩ (evsOk (by omega) (by omega) (by simp)) none 0 B _ (hL.mem HM hB) (HM.le hB) Rd.nil (by show 0 ≤ _; omega)) fun w97 hbw HM a HF => ?_
     refine keepS (HM.picks [0, 1, 2] (by decide) rfl) (fun HS => ?_)
     refine ap HF (fun _ => HS) [10] #[true, true, true, true, true, true, true, true, true, true, true, false, false] [(98, .bool (Bk.fits ⟨1, tkVal 63 l, (tkVal 281474976710656 (qc l) : Int), 0, []⟩))] fun a HF => ?_
     refine qg [11] (by kernel_rfl) rfl ?_
     refine all_cons ?_ all_nil
     refine qj HF (i := 11) rfl rfl ?_
     refine e_sa HF HM 3 rfl rfl rfl rfl rfl si_bk rfl rfl (by simp [Value.oneCell']) ?_
     clear HM; intro w15_11 HM
     refine keepS (HM.picks [0, 1, 2] (by decide) rfl) (fun HS => ?_)
     refine ap HF (fun _ => HS) [12] #[true, true, true, true, true, true, true, true, true, true, true, true, true] [(5, .bool (Bk.fits ⟨1, tkVal 63 l, (tkVal 281474976710656 (qc l) : Int), 0, []⟩))] fun a HF => ?_
     refine qn (by kernel_rfl) ?_
     have HF := HF.as (t := 5) (u := .bool ((zd l).isSome)) rfl (congrArg Value.bool (by rw [ql3 (l := l) (fun hh => by have h0 := hh.2; omega), h3, decide_eq_true (by omega), Bool.true_and, Bool.true_and]))
     exact ⟨HF.sub (by kernel_rfl), HM.picks [0, 1, 2, 3] (by decide) rfl⟩
    have hd95 := ne_of_beq_false hb95
    refine ap HF (fun _ => HS) [8, 9, 10] #[true, true, true, true, true, true, true, true, true, true, true, false, false] [(98, .bool false)] fun a HF => ?_
    refine qg [11] (by kernel_rfl) rfl ?_
    refine all_cons ?_ all_nil
    refine qj HF (i := 11) rfl rfl ?_
    refine e_sa HF HM 3 rfl rfl rfl rfl rfl si_bk rfl rfl (by simp [Value.oneCell']) ?_
    clear HM; intro w15_11 HM
    refine keepS (HM.picks [0, 1, 2] (by decide) rfl) (fun HS => ?_)
    refine ap HF (fun _ => HS) [12] #[true, true, true, true, true, true, true, true, true, true, true, true, true] [(5, .bool false)] fun a HF => ?_
    refine qn (by kernel_rfl) ?_
    have HF := HF.as (t := 5) (u := .bool ((zd l).isSome)) rfl (congrArg Value.bool (by rw [ql3 (l := l) (fun hh => by have h0 := hh.2; omega), decide_eq_false (by omega), Bool.false_and, Bool.and_false]))
    exact ⟨HF.sub (by kernel_rfl), HM.picks [0, 1, 2, 3] (by decide) rfl⟩
   refine ap HF (fun _ => HS) [3, 4, 5, 6, 7, 8, 9, 10] #[true, true, true, true, true, true, true, true, true, true, true, false, false] [(98, .bool false)] fun a HF => ?_
   refine qg [11] (by kernel_rfl) rfl ?_
   refine all_cons ?_ all_nil
   refine qj HF (i := 11) rfl rfl ?_
   refine e_sa HF HM 3 rfl rfl rfl rfl rfl si_bk rfl rfl (by simp [Value.oneCell']) ?_
   clear HM; intro w15_11 HM
   refine keepS (HM.picks [0, 1, 2] (by decide) rfl) (fun HS => ?_)
   refine ap HF (fun _ => HS) [12] #[true, true, true, true, true, true, true, true, true, true, true, true, true] [(5, .bool false)] fun a HF => ?_
   refine qn (by kernel_rfl) ?_
   have HF := HF.as (t := 5) (u := .bool ((zd l).isSome)) rfl (congrArg Value.bool (by have h9 := hb90; rw [tk3] at h9; rw [ql3 (l := l) (fun hh => by have h0 := hh.2; omega), h9, Bool.false_and]))
   exact ⟨HF.sub (by kernel_rfl), HM.picks [0, 1, 2, 3] (by decide) rfl⟩
  clear HF HM; rintro a w15 ⟨HF, HM⟩
  refine wp_ret ?_
  rcases HF.tf 5 rfl with ⟨hb5, HF⟩ | ⟨hb5, HF⟩
  ·
   have hfin := hb5
   exact ret2 rfl HF (.cellS (i := 3) HF HM rfl rfl si_bk rfl) (.tmp HF rfl) (qb5 (b := ⟨1, tkVal 63 l, (tkVal 281474976710656 (qc l) : Int), 0, []⟩) (A := none) (c := 0) (by rw [qa8]; exact qpl (fun hh => by have h0 := hh.2; omega) hfin) (World.ownsRow_nil _ _ _ _) (Nat.le_refl _) HM.below)
  have hfin := hb5
  exact ret2 rfl HF (.cellS (i := 3) HF HM rfl rfl si_bk rfl) (.tmp HF rfl) (qbg (by rw [qa8]; exact Option.not_isSome_iff_eq_none.1 (by rw [hfin]; decide)) rfl (by simp [Value.oneCell']) HM.below)
 have h3 : qci l = false := by rw [← tk3]; exact hb43
 refine fp HF 3 2 [(46, .bool false)] fun a HF => ?_
 refine qb rfl (qe HF rfl (wp_skip ?_))
 refine qay (fun aS wS => Fr aS 99 [] [(5, .bool ((zd l).isSome)), (46, .bool false), (9, vI (tkVal 4096 (qc (qc l)))), (18, .bool false), (8, vP g8 0), (7, .func (.func 82) #[] #[vP g3 0, vP g6 0]), (6, vP g6 0), (4, vP g4 0), (3, vP g3 0), (0, vB (1 : Nat))] ∧ Mem w wS [.blk g3 #[.slice Aq3 ((qc (qc (qc l))).length) cq3] 54, .blk g6 #[.bool (((true && tkOk 63 l) && tkOk 281474976710656 (qc l)) && tkOk 4096 (qc (qc l)))] 4, .blk g8 #[vB (1 : Nat), vB (tkVal 63 l), vI (tkVal 281474976710656 (qc l)), vI 0, .slice none 0 0] 41, .blk g4 #[vB (1 : Nat), vB (tkVal 63 l), vI (tkVal 281474976710656 (qc l)), vI 0, .slice none 0 0] 41]) ?_ ?_
 ·
  refine qae HM [.blk g3 #[.slice Aq3 ((qc (qc (qc l))).length) cq3] 54, .blk g6 #[.bool (((true && tkOk 63 l) && tkOk 281474976710656 (qc l)) && tkOk 4096 (qc (qc l)))] 4, .blk g8 #[vB (1 : Nat), vB (tkVal 63 l), vI (tkVal 281474976710656 (qc l)), vI 0, .slice none 0 0] 41] [0, 1, 2] [] fun HM HS => ?_
  refine ay HF HS 0 rfl rfl rfl (v := .agg #[vB (1 : Nat), vB (tkVal 63 l), vI (tkVal 281474976710656 (qc l)), vI 0, .slice none 0 0]) (Yl.zg rfl rfl si_bk rfl (fun _ h => qd (h.blk (i := 2) rfl))) fun a HF => ?_
  refine ay HF HS 1 rfl rfl rfl (Yl.qi rfl rfl (by kernel_rfl) (fun _ h => h.cell (i := 1) rfl rfl)) fun a HF => ?_
  refine ap HF (fun _ => HS) [2] #[true, true, true, false, false, false, false, false, false, false, false, false, false] [(90, .bool (((true && tkOk 63 l) && tkOk 281474976710656 (qc l)) && tkOk 4096 (qc (qc l))))] fun a HF => ?_
  rcases HF.tf 90 rfl with ⟨hb90, HF⟩ | ⟨hb90, HF⟩
  ·
   refine ay HF HS 3 rfl rfl rfl (Yl.qi rfl rfl (by kernel_rfl) (fun _ h => h.cell (i := 0) rfl rfl)) fun a HF => ?_
   refine ay HF HS 4 rfl rfl rfl (Yl.len rfl rfl (by kernel_rfl)) fun a HF => ?_
   refine ap HF (fun _ => HS) [5, 6, 7] #[true, true, true, true, true, true, true, true, false, false, false, false, false] [(95, .bool ((((qc (qc (qc l))).length : Nat) : Int) == (0 : Int)))] fun a HF => ?_
   rcases HF.tf 95 rfl with ⟨hb95, HF⟩ | ⟨hb95, HF⟩
   ·
    have hd95 := eq_of_beq hb95
    refine ay HF HS 8 rfl rfl rfl (v := .agg #[vB (1 : Nat), vB (tkVal 63 l), vI (tkVal 281474976710656 (qc l)), vI 0, .slice none 0 0]) (Yl.zg rfl rfl si_bk rfl (fun _ h => qd (h.blk (i := 2) rfl))) fun a HF => ?_
    refine qg [9] (by kernel_rfl) rfl ?_
    refine all_cons ?_ all_nil
    refine qj HF (i := 9) rfl rfl ?_
    refine e_is HF HM [.agg #[vB (1 : Nat), vB (tkVal 63 l), vI (tkVal 281474976710656 (qc l)), vI 0, .slice none 0 0]] (.bool (Bk.fits ⟨1, tkVal 63 l, (tkVal 281474976710656 (qc l) : Int), 0, []⟩)) rfl rfl (qdn ⟨1, tkVal 63 l, (tkVal 281474976710656 (qc l) : Int), 0, []⟩ (evsOk (by omega) (by omega) (by simp)) none 0 B _ (hL.mem HM hB) (HM.le hB) Rd.nil (by show 0 ≤ _; omega)) fun w97 hbw HM a HF => ?_
    refine keepS (HM.picks [0, 1, 2] (by decide) rfl) (fun HS => ?_)
    refine ap HF (fun _ => HS) [10] #[true, true, true, true, true, true, true, true, true, true, true, false, false] [(98, .bool (Bk.fits ⟨1, tkVal 63 l, (tkVal 281474976710656 (qc l) : Int), 0, []⟩))] fun a HF => ?_
    refine qg [11] (by kernel_rfl) rfl ?_
    refine all_cons ?_ all_nil
    refine qj HF (i := 11) rfl rfl ?_
    refine e_sa HF HM 3 rfl rfl rfl rfl rfl si_bk rfl rfl (by simp [Value.oneCell']) ?_
    clear HM; intro w15_11 HM
    refine keepS (HM.picks [0, 1, 2] (by decide) rfl) (fun HS => ?_)
    refine ap HF (fun _ => HS) [12] #[true, true, true, true, true, true, true, true, true, true, true, true, true] [(5, .bool (Bk.fits ⟨1, tkVal 63 l, (tkVal 281474976710656 (qc l) : Int), 0, []⟩))] fun a HF => ?_
    refine qn (by kernel_rfl) ?_
    have HF := HF.as (t := 5) (u := .bool ((zd l).isSome)) rfl (congrArg Value.bool (by have h9 := hb90; rw [tk3, h3] at h9; cases h9))
    exact ⟨HF.sub (by kernel_rfl), HM.picks [0, 1, 2, 3] (by decide) rfl⟩
   have hd95 := ne_of_beq_false hb95
   refine ap HF (fun _ => HS) [8, 9, 10] #[true, true, true, true, true, true, true, true, true, true, true, false, false] [(98, .bool false)] fun a HF => ?_
   refine qg [11] (by kernel_rfl) rfl ?_
   refine all_cons ?_ all_nil
   refine qj HF (i := 11) rfl rfl ?_
   refine e_sa HF HM 3 rfl rfl rfl rfl rfl si_bk rfl rfl (by simp [Value.oneCell']) ?_
   clear HM; intro w15_11 HM
   refine keepS (HM.picks [0, 1, 2] (by decide) rfl) (fun HS => ?_)
   refine ap HF (fun _ => HS) [12] #[true, true, true, true, true, true, true, true, true, true, true, true, true] [(5, .bool false)] fun a HF => ?_
   refine qn (by kernel_rfl) ?_
   have HF := HF.as (t := 5) (u := .bool ((zd l).isSome)) rfl (congrArg Value.bool (by have h9 := hb90; rw [tk3, h3] at h9; cases h9))
   exact ⟨HF.sub (by kernel_rfl), HM.picks [0, 1, 2, 3] (by decide) rfl⟩
  refine ap HF (fun _ => HS) [3, 4, 5, 6, 7, 8, 9, 10] #[true, true, true, true, true, true, true, true, true, true, true, false, false] [(98, .bool false)] fun a HF => ?_
  refine qg [11] (by kernel_rfl) rfl ?_
  refine all_cons ?_ all_nil
  refine qj HF (i := 11) rfl rfl ?_
  refine e_sa HF HM 3 rfl rfl rfl rfl rfl si_bk rfl rfl (by simp [Value.oneCell']) ?_
  clear HM; intro w15_11 HM
  refine keepS (HM.picks [0, 1, 2] (by decide) rfl) (fun HS => ?_)
  refine ap HF (fun _ => HS) [12] #[true, true, true, true, true, true, true, true, true, true, true, true, true] [(5, .bool false)] fun a HF => ?_
  refine qn (by kernel_rfl) ?_
  have HF := HF.as (t := 5) (u := .bool ((zd l).isSome)) rfl (congrArg Value.bool (by have h9 := hb90; rw [tk3] at h9; rw [ql3 (l := l) (fun hh => by rw [h3] at hh; cases hh.1), h9, Bool.false_and]))
  exact ⟨HF.sub (by kernel_rfl), HM.picks [0, 1, 2, 3] (by decide) rfl⟩
 clear HF HM; rintro a w15 ⟨HF, HM⟩
 refine wp_ret ?_
 rcases HF.tf 5 rfl with ⟨hb5, HF⟩ | ⟨hb5, HF⟩
 ·
  have hfin := hb5
  exact ret2 rfl HF (.cellS (i := 3) HF HM rfl rfl si_bk rfl) (.tmp HF rfl) (qb5 (b := ⟨1, tkVal 63 l, (tkVal 281474976710656 (qc l) : Int), 0, []⟩) (A := none) (c := 0) (by rw [qa8]; exact qpl (fun hh => by rw [h3] at hh; cases hh.1) hfin) (World.ownsRow_nil _ _ _ _) (Nat.le_refl _) HM.below)
 have hfin := hb5
 exact ret2 rfl HF (.cellS (i := 3) HF HM rfl rfl si_bk rfl) (.tmp HF rfl) (qbg (by rw [qa8]; exact Option.not_isSome_iff_eq_none.1 (by rw [hfin]; decide)) rfl (by simp [Value.oneCell']) HM.below)
theorem qpq (A : Option Addr) (n cp : Nat) (l : List Nat) (B : Nat) (w : World) (hL : LaidX B w) (hB : B ≤ w.heap.size) (hr : Rd w w.heap.size 1 A n (l.map B8)) (hc : n ≤ cp) (hln : l.length = n) (hn : n ≤ 9223372036854775807) (hl : ∀ b ∈ l, b < 256) :
    Calls Tryd.prog 47 #[.slice A n cp] w (qk4 45 w (readB l)) := by
 refine qh (vs := [.slice A n cp]) Tryd.func47 rfl rfl (by kernel_rfl) (σ0 := [(0, .slice A n cp)]) rfl ?_
 intro a HF
 have HM := Mem.start w
 refine wp_seq (qa ?_)
 refine fo HF 0 rfl rfl ?_
 refine qp HF HM (cs := #[vB 0, vB 0, vI 0, vI 0, .slice none 0 0]) rfl (by kernel_rfl) rfl (by decide) ?_
 clear HF HM; intro a w2 g2 HF HM
 refine fp HF 2 1 [(4, vI 0), (3, vI 0)] fun a HF => ?_
 refine qb rfl (wp_seq (qa ?_))
 refine fp HF 1 0 [(10, .slice A n cp)] fun a HF => ?_
 refine fo HF 1 rfl rfl ?_
 refine e_is HF HM [.slice A n cp] (.tuple #[vI ((lenR l).1), vI ((lenR l).2)]) rfl rfl (qm8 A n cp l _ (HM.old hr) hln hn hl) fun w11 hbw HM a HF => ?_
 refine fp HF 5 2 [(6, vI ((lenR l).2)), (5, vI ((lenR l).1))] fun a HF => ?_
 refine qb rfl (wp_seq (wp_seq (qa ?_)))
 refine fp HF 2 0 [(15, .bool (((lenR l).2 : Int) != (0 : Int)))] fun a HF => ?_
 refine qb rfl ?_
 rcases HF.tf 15 rfl with ⟨hb15, HF⟩ | ⟨hb15, HF⟩
 ·
  have hd15 := bne_iff_ne.1 hb15
  refine qf HF rfl (wp_seq (qa ?_))
  refine fy HF HM 0 rfl rfl rfl (v := .agg #[vB 0, vB 0, vI 0, vI 0, .slice none 0 0]) (Yl.build (vs := []) rfl (by kernel_rfl) (by kernel_rfl)) fun a HF => ?_
  refine fp HF 1 1 [(17, vI ((lenR l).2))] fun a HF => ?_
  refine fo HF 2 rfl rfl ?_
  refine e_sa HF HM 0 rfl rfl rfl rfl rfl si_bk rfl rfl (by simp [Value.oneCell']) ?_
  clear HM; intro w3_2 HM
  refine fp HF 2 3 [(4, vI ((lenR l).2)), (3, vI 0)] fun a HF => ?_
  refine qb rfl (wp_ret ?_)
  exact ret3 rfl HF (.cellS (i := 0) HF HM rfl rfl si_bk rfl) (.tmp HF rfl) (.tmp HF rfl) (qah (qpm (by omega)) HM.below)
 have hd15 := bne_eq_false_iff_eq.1 hb15
 have hl0 : (lenR l).2 = 0 := by omega
 obtain ⟨v1, v2, v3, v4⟩ := qpo hl0
 obtain ⟨Lb, hLb⟩ : ∃ x, x = l.take (lenR l).1 := ⟨_, rfl⟩
 have hrL : Rd w w.heap.size 1 A (lenR l).1 (Lb.map B8) := by rw [hLb]; exact hr.toB8 (by omega)
 have hlL : ∀ b ∈ Lb, b < 256 := by rw [hLb]; exact qa7 hl _
 have hnL : Lb.length = (lenR l).1 := by rw [hLb, List.length_take]; omega
 refine qe HF rfl (wp_skip (wp_seq (qa ?_)))
 refine fp HF 2 0 [(19, vI ((lenR l).1)), (18, .slice A n cp)] fun a HF => ?_
 refine fy HF HM 2 rfl rfl rfl (v := .slice A ((lenR l).1) cp) (Yl.qbz ei_u8 (j := (lenR l).1) rfl rfl rfl (by omega)) fun a HF => ?_
 refine fp HF 1 3 [(0, .slice A ((lenR l).1) cp)] fun a HF => ?_
 refine qb rfl ?_
 obtain ⟨gA, oA, rfl, _⟩ := hrL.qa2 (Nat.lt_of_le_of_lt (Nat.zero_le _) (show 0 < (lenR l).1 from by omega)) (by decide)
 refine wp_seq (wp_block (wp_seq (qa ?_)))
 refine fp HF 1 0 [(22, .slice (some ⟨gA, oA, none⟩) ((lenR l).1) cp)] fun a HF => ?_
 refine fo HF 1 rfl rfl ?_
 refine e_is HF HM [.slice (some ⟨gA, oA, none⟩) ((lenR l).1) cp] (.bool (qbj Lb)) rfl rfl (qm7 _ (lenR l).1 cp Lb B _ (hL.mem HM hB) (HM.le hB) (HM.old hrL) (by omega) hnL (by omega) hlL) fun w23 hbw HM a HF => ?_
 refine fp HF 2 2 [(21, .bool (!(qbj Lb)))] fun a HF => ?_
 refine qb rfl ?_
 rcases HF.tf 21 rfl with ⟨hb21, HF⟩ | ⟨hb21, HF⟩
 ·
  have hs : qbj Lb = false := by simpa using hb21
  refine qf HF rfl (wp_seq (qa ?_))
  refine fy HF HM 0 rfl rfl rfl (v := .agg #[vB 0, vB 0, vI 0, vI 0, .slice none 0 0]) (Yl.build (vs := []) rfl (by kernel_rfl) (by kernel_rfl)) fun a HF => ?_
  refine fo HF 1 rfl rfl ?_
  refine e_sa HF HM 0 rfl rfl rfl rfl rfl si_bk rfl rfl (by simp [Value.oneCell']) ?_
  clear HM; intro w6_1 HM
  refine fp HF 2 2 [(4, vI 102), (3, vI 0)] fun a HF => ?_
  refine qb rfl (wp_ret ?_)
  exact ret3 rfl HF (.cellS (i := 0) HF HM rfl rfl si_bk rfl) (.tmp HF rfl) (.tmp HF rfl) (qah (qa9 hl0 hLb (by unfold blkOf; rw [if_pos hs])) HM.below)
 have hs : qbj Lb = true := by simpa using hb21
 refine qe HF rfl (wp_seq ?_)
 refine qae HM [.blk g2 #[vB 0, vB 0, vI 0, vI 0, .slice none 0 0] 41] [0] [] fun HM HS => ?_
 refine ap HF (fun _ => HS) [0] #[true, false, false, false, false, false, false] [(27, .slice (some ⟨gA, oA, none⟩) ((lenR l).1) cp)] fun a HF => ?_
 refine ay HF HS 1 rfl rfl rfl (v := .slice (if cp = 4 then some ⟨gA, oA, none⟩ else (some ⟨gA, oA, none⟩ : Option Addr).map (·.add (4 * 1))) (6 - 4) (cp - 4)) (Yl.qkl ei_u8 (i := 4) (j := 6) rfl rfl rfl rfl (by omega) (by omega)) fun a HF => ?_
 replace HF := HF.sp 28 (.slice (some ⟨gA, oA + 4, none⟩) (6 - 4) (cp - 4)) rfl (by simp only [if_neg (show ¬ cp = 4 by omega), Option.map_some, Addr.add_mid, Nat.mul_one])
 refine ay HF HS 2 rfl rfl rfl (v := vP gA (oA + 4)) (Yl.arrayAt (k := 2) rfl rfl (by kernel_rfl) (by omega)) fun a HF => ?_
 refine ay HF HS 3 rfl rfl rfl (v := .agg #[vB (Lb.getD 4 0), vB (Lb.getD 5 0)]) (Yl.zg rfl rfl si_a2 rfl (fun _ h => qu9 (k := 4) (l := Lb) (h.old hrL) (by omega))) fun a HF => ?_
 refine ay HF HS 4 rfl rfl rfl (v := .agg #[vB 113, vB 116]) (Yl.zg rfl rfl si_a2 rfl (fun _ h => qro hL h hB)) fun a HF => ?_
 refine ay HF HS 5 rfl rfl rfl (v := .bool (!(((Lb.getD 4 0 : Int) == (113 : Int)) && ((Lb.getD 5 0 : Int) == (116 : Int))))) (Yl.qui rfl rfl rfl (by kernel_rfl) (by kernel_rfl)) fun a HF => ?_
 refine ap HF (fun _ => HS) [6] #[true, true, true, true, true, true, true] [(26, .bool (!(((Lb.getD 4 0 : Int) == (113 : Int)) && ((Lb.getD 5 0 : Int) == (116 : Int)))))] fun a HF => ?_
 refine qn (by kernel_rfl) ?_
 rcases HF.tf 26 rfl with ⟨hb26, HF⟩ | ⟨hb26, HF⟩
 ·
  simp only [Bool.not_eq_true', Bool.and_eq_false_iff, beq_eq_false_iff_ne] at hb26
  have hmg : ¬ (Lb.getD 4 0 = 113 ∧ Lb.getD 5 0 = 116) := by omega
  refine qf HF rfl (wp_seq (qa ?_))
  refine fy HF HM 0 rfl rfl rfl (v := .agg #[vB 0, vB 0, vI 0, vI 0, .slice none 0 0]) (Yl.build (vs := []) rfl (by kernel_rfl) (by kernel_rfl)) fun a HF => ?_
  refine fo HF 1 rfl rfl ?_
  refine e_sa HF HM 0 rfl rfl rfl rfl rfl si_bk rfl rfl (by simp [Value.oneCell']) ?_
  clear HM; intro w8_1 HM
  refine fp HF 2 2 [(4, vI 103), (3, vI 0)] fun a HF => ?_
  refine qb rfl (wp_ret ?_)
  exact ret3 rfl HF (.cellS (i := 0) HF HM rfl rfl si_bk rfl) (.tmp HF rfl) (.tmp HF rfl) (qah (qa9 hl0 hLb (by unfold blkOf; rw [if_neg (by rw [hs]; decide), if_pos hmg])) HM.below)
 simp only [Bool.not_eq_false', Bool.and_eq_true, beq_iff_eq] at hb26
 have hmg : Lb.getD 4 0 = 113 ∧ Lb.getD 5 0 = 116 := by omega
 refine qe HF rfl (wp_seq (qa ?_))
 refine fp HF 1 0 [(35, .slice (some ⟨gA, oA, none⟩) ((lenR l).1) cp)] fun a HF => ?_
 refine fy HF HM 1 rfl rfl rfl (v := vP gA (oA + 6)) (Yl.indexAddr (ad := ⟨gA, oA, none⟩) (y := 6) (sz := 1) rfl rfl rfl (by omega) (by kernel_rfl)) fun a HF => ?_
 have hx111 := getD_lt hlL (k := 6) (by first | omega | (simp; omega))
 refine fy HF HM 2 rfl rfl rfl (v := vB (Lb.getD 6 0)) (Yl.qi rfl rfl (by kernel_rfl) (fun _ h => (h.old hrL).qbk (k := 6) (qas (F := B8) (k := 6) (x := (Lb.getD 6 0)) ((getD_at 0 (k := 6) (by first | omega | (simp; omega))))))) fun a HF => ?_
 refine fp HF 2 3 [(34, .bool (((Lb.getD 6 0) : Int) != (1 : Int)))] fun a HF => ?_
 refine qb rfl ?_
 rcases HF.tf 34 rfl with ⟨hb34, HF⟩ | ⟨hb34, HF⟩
 ·
  have hd34 := bne_iff_ne.1 hb34
  refine qf HF rfl (wp_seq (qa ?_))
  refine fy HF HM 0 rfl rfl rfl (v := .agg #[vB 0, vB 0, vI 0, vI 0, .slice none 0 0]) (Yl.build (vs := []) rfl (by kernel_rfl) (by kernel_rfl)) fun a HF => ?_
  refine fo HF 1 rfl rfl ?_
  refine e_sa HF HM 0 rfl rfl rfl rfl rfl si_bk rfl rfl (by simp [Value.oneCell']) ?_
  clear HM; intro w10_1 HM
  refine fp HF 2 2 [(4, vI 104), (3, vI 0)] fun a HF => ?_
  refine qb rfl (wp_ret ?_)
  exact ret3 rfl HF (.cellS (i := 0) HF HM rfl rfl si_bk rfl) (.tmp HF rfl) (.tmp HF rfl) (qah (qa9 hl0 hLb (by unfold blkOf; rw [if_neg (by rw [hs]; decide), if_neg (fun hh => hh hmg), if_pos (by omega)])) HM.below)
 have hd34 := bne_eq_false_iff_eq.1 hb34
 refine qe HF rfl (wp_seq (qa ?_))
 refine fp HF 1 0 [(41, .slice (some ⟨gA, oA, none⟩) ((lenR l).1) cp)] fun a HF => ?_
 refine fy HF HM 1 rfl rfl rfl (v := vP gA (oA + 7)) (Yl.indexAddr (ad := ⟨gA, oA, none⟩) (y := 7) (sz := 1) rfl rfl rfl (by omega) (by kernel_rfl)) fun a HF => ?_
 have hx135 := getD_lt hlL (k := 7) (by first | omega | (simp; omega))
 refine fy HF HM 2 rfl rfl rfl (v := vB (Lb.getD 7 0)) (Yl.qi rfl rfl (by kernel_rfl) (fun _ h => (h.old hrL).qbk (k := 7) (qas (F := B8) (k := 7) (x := (Lb.getD 7 0)) ((getD_at 0 (k := 7) (by first | omega | (simp; omega))))))) fun a HF => ?_
 refine fp HF 2 3 [(45, .bool (((Lb.getD 7 0) : Int) != (1 : Int)))] fun a HF => ?_
 rcases HF.tf 45 rfl with ⟨hb45, HF⟩ | ⟨hb45, HF⟩
 ·
  have hd45 := bne_iff_ne.1 hb45
  refine fp HF 1 5 [(46, .slice (some ⟨gA, oA, none⟩) ((lenR l).1) cp)] fun a HF => ?_
  refine fy HF HM 6 rfl rfl rfl (v := vP gA (oA + 7)) (Yl.indexAddr (ad := ⟨gA, oA, none⟩) (y := 7) (sz := 1) rfl rfl rfl (by omega) (by kernel_rfl)) fun a HF => ?_
  have hx143 := getD_lt hlL (k := 7) (by first | omega | (simp; omega))
  refine fy HF HM 7 rfl rfl rfl (v := vB (Lb.getD 7 0)) (Yl.qi rfl rfl (by kernel_rfl) (fun _ h => (h.old hrL).qbk (k := 7) (qas (F := B8) (k := 7) (x := (Lb.getD 7 0)) ((getD_at 0 (k := 7) (by first | omega | (simp; omega))))))) fun a HF => ?_
  refine fp HF 3 8 [(40, .bool (((Lb.getD 7 0) : Int) != (2 : Int)))] fun a HF => ?_
  refine qb rfl ?_
  rcases hp : qdv (Lb.getD 7 0) ((Lb.take (Lb.length - 4)).drop 8) with _ | b
  ·
   rcases HF.tf 40 rfl with ⟨hb40, HF⟩ | ⟨hb40, HF⟩
   ·
    have hd40 := bne_iff_ne.1 hb40
    have hkd : Lb.getD 7 0 ≠ 1 ∧ Lb.getD 7 0 ≠ 2 := by omega
    refine qf HF rfl (wp_seq (qa ?_))
    refine fy HF HM 0 rfl rfl rfl (v := .agg #[vB 0, vB 0, vI 0, vI 0, .slice none 0 0]) (Yl.build (vs := []) rfl (by kernel_rfl) (by kernel_rfl)) fun a HF => ?_
    refine fo HF 1 rfl rfl ?_
    refine e_sa HF HM 0 rfl rfl rfl rfl rfl si_bk rfl rfl (by simp [Value.oneCell']) ?_
    clear HM; intro w12_1 HM
    refine fp HF 2 2 [(4, vI 105), (3, vI 0)] fun a HF => ?_
    refine qb rfl (wp_ret ?_)
    exact ret3 rfl HF (.cellS (i := 0) HF HM rfl rfl si_bk rfl) (.tmp HF rfl) (.tmp HF rfl) (qah (qa9 hl0 hLb (by unfold blkOf; rw [if_neg (by rw [hs]; decide), if_neg (fun hh => hh hmg), if_neg (by omega), if_pos hkd])) HM.below)
   have hd40 := bne_eq_false_iff_eq.1 hb40
   have hkd : Lb.getD 7 0 = 1 ∨ Lb.getD 7 0 = 2 := by omega
   refine qe HF rfl (wp_skip ?_)
   refine qay (fun aS wS => ∃ (cs : Array Value) (g7 : Nat), Fr aS 68 [] [(8, .bool false), (7, vP g7 0), (40, .bool false), (34, .bool false), (26, .bool false), (21, .bool false), (0, .slice (some ⟨gA, oA, none⟩) ((lenR l).1) cp), (15, .bool false), (6, vI ((lenR l).2)), (5, vI ((lenR l).1)), (4, vI 0), (3, vI 0), (2, vP g2 0)] ∧ Mem w wS [.blk g7 cs 41, .blk g2 #[vB 0, vB 0, vI 0, vI 0, .slice none 0 0] 41] ∧ (cs.size = 5) ∧ (∀ v ∈ cs.toList, v.oneCell' = true)) ?_ ?_
   ·
    refine qae HM [.blk g2 #[vB 0, vB 0, vI 0, vI 0, .slice none 0 0] 41] [0] [12] fun HM HS => ?_
    refine ap HF (fun _ => HS) [0, 3, 4] #[true, false, false, true, true, false, false, false, false, false, false, false, false, false] [(57, vI ((lenR l).1)), (56, .slice (some ⟨gA, oA, none⟩) ((lenR l).1) cp), (53, .slice (some ⟨gA, oA, none⟩) ((lenR l).1) cp)] fun a HF => ?_
    refine ay HF HS 1 rfl rfl rfl (v := vP gA (oA + 7)) (Yl.indexAddr (ad := ⟨gA, oA, none⟩) (y := 7) (sz := 1) rfl rfl rfl (by omega) (by kernel_rfl)) fun a HF => ?_
    have hx173 := getD_lt hlL (k := 7) (by first | omega | (simp; omega))
    refine ay HF HS 2 rfl rfl rfl (v := vB (Lb.getD 7 0)) (Yl.qi rfl rfl (by kernel_rfl) (fun _ h => (h.old hrL).qbk (k := 7) (qas (F := B8) (k := 7) (x := (Lb.getD 7 0)) ((getD_at 0 (k := 7) (by first | omega | (simp; omega))))))) fun a HF => ?_
    refine qo HF (fun _ => HS) (i := 5) rfl rfl (d := 58) rfl (by decide) (by kernel_rfl) (fun _ _ _ h => h) (v := vI (IntKind.i64.wrap (((lenR l).1 : Int) - 4))) (fun _ => Yl.pure (by kernel_rfl)) fun a HF => ?_
    replace HF := HF.sp 58 (vI ((lenR l).1 - 4 : Nat)) rfl (ql (by omega) (by omega))
    refine ay HF HS 6 rfl rfl rfl (v := .slice (if cp = 8 then some ⟨gA, oA, none⟩ else (some ⟨gA, oA, none⟩ : Option Addr).map (·.add (8 * 1))) (((lenR l).1 - 4) - 8) (cp - 8)) (Yl.qkl ei_u8 (i := 8) (j := (lenR l).1 - 4) rfl rfl rfl rfl (by omega) (by omega)) fun a HF => ?_
    refine qg [7, 11] (by kernel_rfl) rfl ?_
    refine all_cons ?_ ?_
    ·refine qj HF (i := 7) rfl rfl ?_
     refine e_cl HF [vB (Lb.getD 7 0), .slice (if cp = 8 then some ⟨gA, oA, none⟩ else (some ⟨gA, oA, none⟩ : Option Addr).map (·.add (8 * 1))) (((lenR l).1 - 4) - 8) (cp - 8)] rfl rfl ((qbh (Lb.getD 7 0) hkd _ (((lenR l).1 - 4) - 8) (cp - 8) ((Lb.take (Lb.length - 4)).drop 8) B _ (hL.mem HM hB) (HM.le hB) (HM.old (by rw [hnL]; exact hrL.qkm (i := 8) (j := (lenR l).1 - 4) (by omega) (by omega) (by omega))) (by omega) (by rw [List.length_drop, List.length_take]; omega) (by omega) (qa0 (qa7 hlL _) _)).mono (fun _ _ h => h.none hp)) ?_
     rintro _ w60 ⟨⟨cs, rfl, hs5, h1⟩, hbw⟩
     refine ⟨_, rfl, ?_⟩
     replace HM := HM.call hbw
     clear HF; intro a HF
     refine keepS (HM.picks [0] (by decide) rfl) (fun HS => ?_)
     refine ap HF (fun _ => HS) [8, 9, 10] #[true, true, true, true, true, true, true, true, true, true, true, false, false, false] [(62, .bool false), (61, .agg cs)] fun a HF => ?_
     refine qg [11] (by kernel_rfl) rfl ?_
     refine all_cons ?_ all_nil
     refine qj HF (i := 11) rfl rfl ?_
     refine qp HF HM (cs := #[vB 0, vB 0, vI 0, vI 0, .slice none 0 0]) rfl (by kernel_rfl) rfl (by decide) ?_
     clear HF HM; intro a w7 g7 HF HM
     refine keepS (HM.picks [1] (by decide) rfl) (fun HS => ?_)
     refine qg [12] (by kernel_rfl) rfl ?_
     refine all_cons ?_ all_nil
     refine qj HF (i := 12) rfl rfl ?_
     refine e_sa HF HM 0 rfl rfl rfl rfl rfl si_bk rfl hs5 (h1) ?_
     clear HM; intro w13_12 HM
     refine noS (by kernel_rfl) ?_
     refine ap HF (pastS (by kernel_rfl)) [13] #[true, true, true, true, true, true, true, true, true, true, true, true, true, true] [(8, .bool false)] fun a HF => ?_
     refine qn (by kernel_rfl) ?_
     replace HF := HF.to [(8, .bool false), (7, vP g7 0), (40, .bool false), (34, .bool false), (26, .bool false), (21, .bool false), (0, .slice (some ⟨gA, oA, none⟩) ((lenR l).1) cp), (15, .bool false), (6, vI ((lenR l).2)), (5, vI ((lenR l).1)), (4, vI 0), (3, vI 0), (2, vP g2 0)]
     exact ⟨cs, g7, HF.sub (by kernel_rfl), HM.picks [0, 1] (by decide) rfl, hs5, h1⟩
    refine all_cons ?_ all_nil
    refine qj HF (i := 11) rfl rfl ?_
    refine qp HF HM (cs := #[vB 0, vB 0, vI 0, vI 0, .slice none 0 0]) rfl (by kernel_rfl) rfl (by decide) ?_
    clear HF HM; intro a w7 g7 HF HM
    refine keepS (HM.picks [1] (by decide) rfl) (fun HS => ?_)
    refine qg [7] (by kernel_rfl) rfl ?_
    refine all_cons ?_ all_nil
    refine qj HF (i := 7) rfl rfl ?_
    refine e_cl HF [vB (Lb.getD 7 0), .slice (if cp = 8 then some ⟨gA, oA, none⟩ else (some ⟨gA, oA, none⟩ : Option Addr).map (·.add (8 * 1))) (((lenR l).1 - 4) - 8) (cp - 8)] rfl rfl ((qbh (Lb.getD 7 0) hkd _ (((lenR l).1 - 4) - 8) (cp - 8) ((Lb.take (Lb.length - 4)).drop 8) B _ (hL.mem HM hB) (HM.le hB) (HM.old (by rw [hnL]; exact hrL.qkm (i := 8) (j := (lenR l).1 - 4) (by omega) (by omega) (by omega))) (by omega) (by rw [List.length_drop, List.length_take]; omega) (by omega) (qa0 (qa7 hlL _) _)).mono (fun _ _ h => h.none hp)) ?_
    rintro _ w60 ⟨⟨cs, rfl, hs5, h1⟩, hbw⟩
    refine ⟨_, rfl, ?_⟩
    replace HM := HM.call hbw
    clear HF; intro a HF
    refine keepS (HM.picks [1] (by decide) rfl) (fun HS => ?_)
    refine ap HF (fun _ => HS) [8, 9, 10] #[true, true, true, true, true, true, true, true, true, true, true, true, false, false] [(62, .bool false), (61, .agg cs)] fun a HF => ?_
    refine qg [12] (by kernel_rfl) rfl ?_
    refine all_cons ?_ all_nil
    refine qj HF (i := 12) rfl rfl ?_
    refine e_sa HF HM 0 rfl rfl rfl rfl rfl si_bk rfl hs5 (h1) ?_
    clear HM; intro w13_12 HM
    refine noS (by kernel_rfl) ?_
    refine ap HF (pastS (by kernel_rfl)) [13] #[true, true, true, true, true, true, true, true, true, true, true, true, true, true] [(8, .bool false)] fun a HF => ?_
    refine qn (by kernel_rfl) ?_
    replace HF := HF.to [(8, .bool false), (7, vP g7 0), (40, .bool false), (34, .bool false), (26, .bool false), (21, .bool false), (0, .slice (some ⟨gA, oA, none⟩) ((lenR l).1) cp), (15, .bool false), (6, vI ((lenR l).2)), (5, vI ((lenR l).1)), (4, vI 0), (3, vI 0), (2, vP g2 0)]
    exact ⟨cs, g7, HF.sub (by kernel_rfl), HM.picks [0, 1] (by decide) rfl, hs5, h1⟩
   clear HF HM; rintro a w13 ⟨cs, g7, HF, HM, hs5, h1⟩
   refine wp_seq (wp_seq (qa ?_))
   refine fp HF 2 0 [(64, .bool true)] fun a HF => ?_
   refine qb rfl (qf HF rfl (wp_seq (qa ?_)))
   refine fy HF HM 0 rfl rfl rfl (v := .agg #[vB 0, vB 0, vI 0, vI 0, .slice none 0 0]) (Yl.build (vs := []) rfl (by kernel_rfl) (by kernel_rfl)) fun a HF => ?_
   refine fo HF 1 rfl rfl ?_
   refine e_sa HF HM 1 rfl rfl rfl rfl rfl si_bk rfl rfl (by simp [Value.oneCell']) ?_
   clear HM; intro w15_1 HM
   refine fp HF 2 2 [(4, vI 106), (3, vI 0)] fun a HF => ?_
   refine qb rfl (wp_ret ?_)
   exact ret3 rfl HF (.cellS (i := 1) HF HM rfl rfl si_bk rfl) (.tmp HF rfl) (.tmp HF rfl) (qah (qa9 hl0 hLb (by unfold blkOf; rw [if_neg (by rw [hs]; decide), if_neg (fun hh => hh hmg), if_neg (by omega), if_neg (by omega), hp])) HM.below)
  ·
   rcases HF.tf 40 rfl with ⟨hb40, HF⟩ | ⟨hb40, HF⟩
   ·
    have hd40 := bne_iff_ne.1 hb40
    have hkd : Lb.getD 7 0 ≠ 1 ∧ Lb.getD 7 0 ≠ 2 := by omega
    refine qf HF rfl (wp_seq (qa ?_))
    refine fy HF HM 0 rfl rfl rfl (v := .agg #[vB 0, vB 0, vI 0, vI 0, .slice none 0 0]) (Yl.build (vs := []) rfl (by kernel_rfl) (by kernel_rfl)) fun a HF => ?_
    refine fo HF 1 rfl rfl ?_
    refine e_sa HF HM 0 rfl rfl rfl rfl rfl si_bk rfl rfl (by simp [Value.oneCell']) ?_
    clear HM; intro w12_1 HM
    refine fp HF 2 2 [(4, vI 105), (3, vI 0)] fun a HF => ?_
    refine qb rfl (wp_ret ?_)
    exact ret3 rfl HF (.cellS (i := 0) HF HM rfl rfl si_bk rfl) (.tmp HF rfl) (.tmp HF rfl) (qah (qa9 hl0 hLb (by unfold blkOf; rw [if_neg (by rw [hs]; decide), if_neg (fun hh => hh hmg), if_neg (by omega), if_pos hkd])) HM.below)
   have hd40 := bne_eq_false_iff_eq.1 hb40
   have hkd : Lb.getD 7 0 = 1 ∨ Lb.getD 7 0 = 2 := by omega
   refine qe HF rfl (wp_skip ?_)
   refine qay (fun aS wS => ∃ (Ab : Option Addr) (cb : Nat) (g7 : Nat), Fr aS 68 [] [(8, .bool true), (7, vP g7 0), (40, .bool false), (34, .bool false), (26, .bool false), (21, .bool false), (0, .slice (some ⟨gA, oA, none⟩) ((lenR l).1) cp), (15, .bool false), (6, vI ((lenR l).2)), (5, vI ((lenR l).1)), (4, vI 0), (3, vI 0), (2, vP g2 0)] ∧ Mem w wS [.blk g7 (b.cells Ab cb) 41, .row (.slice Ab b.evs.length cb) b.evs.length (b.evs.flatMap evL) 45 11, .blk g2 #[vB 0, vB 0, vI 0, vI 0, .slice none 0 0] 41] ∧ (b.evs.length ≤ cb)) ?_ ?_
   ·
    refine qae HM [.blk g2 #[vB 0, vB 0, vI 0, vI 0, .slice none 0 0] 41] [0] [12] fun HM HS => ?_
    refine ap HF (fun _ => HS) [0, 3, 4] #[true, false, false, true, true, false, false, false, false, false, false, false, false, false] [(57, vI ((lenR l).1)), (56, .slice (some ⟨gA, oA, none⟩) ((lenR l).1) cp), (53, .slice (some ⟨gA, oA, none⟩) ((lenR l).1) cp)] fun a HF => ?_
    refine ay HF HS 1 rfl rfl rfl (v := vP gA (oA + 7)) (Yl.indexAddr (ad := ⟨gA, oA, none⟩) (y := 7) (sz := 1) rfl rfl rfl (by omega) (by kernel_rfl)) fun a HF => ?_
    have hx271 := getD_lt hlL (k := 7) (by first | omega | (simp; omega))
    refine ay HF HS 2 rfl rfl rfl (v := vB (Lb.getD 7 0)) (Yl.qi rfl rfl (by kernel_rfl) (fun _ h => (h.old hrL).qbk (k := 7) (qas (F := B8) (k := 7) (x := (Lb.getD 7 0)) ((getD_at 0 (k := 7) (by first | omega | (simp; omega))))))) fun a HF => ?_
    refine qo HF (fun _ => HS) (i := 5) rfl rfl (d := 58) rfl (by decide) (by kernel_rfl) (fun _ _ _ h => h) (v := vI (IntKind.i64.wrap (((lenR l).1 : Int) - 4))) (fun _ => Yl.pure (by kernel_rfl)) fun a HF => ?_
    replace HF := HF.sp 58 (vI ((lenR l).1 - 4 : Nat)) rfl (ql (by omega) (by omega))
    refine ay HF HS 6 rfl rfl rfl (v := .slice (if cp = 8 then some ⟨gA, oA, none⟩ else (some ⟨gA, oA, none⟩ : Option Addr).map (·.add (8 * 1))) (((lenR l).1 - 4) - 8) (cp - 8)) (Yl.qkl ei_u8 (i := 8) (j := (lenR l).1 - 4) rfl rfl rfl rfl (by omega) (by omega)) fun a HF => ?_
    refine qg [7, 11] (by kernel_rfl) rfl ?_
    refine all_cons ?_ ?_
    ·refine qj HF (i := 7) rfl rfl ?_
     refine e_cl HF [vB (Lb.getD 7 0), .slice (if cp = 8 then some ⟨gA, oA, none⟩ else (some ⟨gA, oA, none⟩ : Option Addr).map (·.add (8 * 1))) (((lenR l).1 - 4) - 8) (cp - 8)] rfl rfl ((qbh (Lb.getD 7 0) hkd _ (((lenR l).1 - 4) - 8) (cp - 8) ((Lb.take (Lb.length - 4)).drop 8) B _ (hL.mem HM hB) (HM.le hB) (HM.old (by rw [hnL]; exact hrL.qkm (i := 8) (j := (lenR l).1 - 4) (by omega) (by omega) (by omega))) (by omega) (by rw [List.length_drop, List.length_take]; omega) (by omega) (qa0 (qa7 hlL _) _)).mono (fun _ _ h => h.some hp)) ?_
     rintro _ w60 ⟨⟨Ab, cb, rfl, ho, hcb⟩, hbw⟩
     refine ⟨_, rfl, ?_⟩
     replace HM := HM.callRow hbw ho
     clear HF; intro a HF
     refine keepS (HM.picks [1] (by decide) rfl) (fun HS => ?_)
     refine ap HF (fun _ => HS) [8, 9, 10] #[true, true, true, true, true, true, true, true, true, true, true, false, false, false] [(62, .bool true), (61, .agg (b.cells Ab cb))] fun a HF => ?_
     refine qg [11] (by kernel_rfl) rfl ?_
     refine all_cons ?_ all_nil
     refine qj HF (i := 11) rfl rfl ?_
     refine qp HF HM (cs := #[vB 0, vB 0, vI 0, vI 0, .slice none 0 0]) rfl (by kernel_rfl) rfl (by decide) ?_
     clear HF HM; intro a w7 g7 HF HM
     refine keepS (HM.picks [2] (by decide) rfl) (fun HS => ?_)
     refine qg [12] (by kernel_rfl) rfl ?_
     refine all_cons ?_ all_nil
     refine qj HF (i := 12) rfl rfl ?_
     refine e_sa HF HM 0 rfl rfl rfl rfl rfl si_bk rfl rfl (qb4 _ _ _) ?_
     clear HM; intro w13_12 HM
     refine noS (by kernel_rfl) ?_
     refine ap HF (pastS (by kernel_rfl)) [13] #[true, true, true, true, true, true, true, true, true, true, true, true, true, true] [(8, .bool true)] fun a HF => ?_
     refine qn (by kernel_rfl) ?_
     replace HF := HF.to [(8, .bool true), (7, vP g7 0), (40, .bool false), (34, .bool false), (26, .bool false), (21, .bool false), (0, .slice (some ⟨gA, oA, none⟩) ((lenR l).1) cp), (15, .bool false), (6, vI ((lenR l).2)), (5, vI ((lenR l).1)), (4, vI 0), (3, vI 0), (2, vP g2 0)]
     exact ⟨Ab, cb, g7, HF.sub (by kernel_rfl), HM.picks [0, 1, 2] (by decide) rfl, hcb⟩
    refine all_cons ?_ all_nil
    refine qj HF (i := 11) rfl rfl ?_
    refine qp HF HM (cs := #[vB 0, vB 0, vI 0, vI 0, .slice none 0 0]) rfl (by kernel_rfl) rfl (by decide) ?_
    clear HF HM; intro a w7 g7 HF HM
    refine keepS (HM.picks [1] (by decide) rfl) (fun HS => ?_)
    refine qg [7] (by kernel_rfl) rfl ?_
    refine all_cons ?_ all_nil
    refine qj HF (i := 7) rfl rfl ?_
    refine e_cl HF [vB (Lb.getD 7 0), .slice (if cp = 8 then some ⟨gA, oA, none⟩ else (some ⟨gA, oA, none⟩ : Option Addr).map (·.add (8 * 1))) (((lenR l).1 - 4) - 8) (cp - 8)] rfl rfl ((qbh (Lb.getD 7 0) hkd _ (((lenR l).1 - 4) - 8) (cp - 8) ((Lb.take (Lb.length - 4)).drop 8) B _ (hL.mem HM hB) (HM.le hB) (HM.old (by rw [hnL]; exact hrL.qkm (i := 8) (j := (lenR l).1 - 4) (by omega) (by omega) (by omega))) (by omega) (by rw [List.length_drop, List.length_take]; omega) (by omega) (qa0 (qa7 hlL _) _)).mono (fun _ _ h => h.some hp)) ?_
    rintro _ w60 ⟨⟨Ab, cb, rfl, ho, hcb⟩, hbw⟩
    refine ⟨_, rfl, ?_⟩
    replace HM := HM.callRow hbw ho
    clear HF; intro a HF
    refine keepS (HM.picks [2] (by decide) rfl) (fun HS => ?_)
    refine ap HF (fun _ => HS) [8, 9, 10] #[true, true, true, true, true, true, true, true, true, true, true, true, false, false] [(62, .bool true), (61, .agg (b.cells Ab cb))] fun a HF => ?_
    refine qg [12] (by kernel_rfl) rfl ?_
    refine all_cons ?_ all_nil
    refine qj HF (i := 12) rfl rfl ?_
    refine e_sa HF HM 1 rfl rfl rfl rfl rfl si_bk rfl rfl (qb4 _ _ _) ?_
    clear HM; intro w13_12 HM
    refine noS (by kernel_rfl) ?_
    refine ap HF (pastS (by kernel_rfl)) [13] #[true, true, true, true, true, true, true, true, true, true, true, true, true, true] [(8, .bool true)] fun a HF => ?_
    refine qn (by kernel_rfl) ?_
    replace HF := HF.to [(8, .bool true), (7, vP g7 0), (40, .bool false), (34, .bool false), (26, .bool false), (21, .bool false), (0, .slice (some ⟨gA, oA, none⟩) ((lenR l).1) cp), (15, .bool false), (6, vI ((lenR l).2)), (5, vI ((lenR l).1)), (4, vI 0), (3, vI 0), (2, vP g2 0)]
    exact ⟨Ab, cb, g7, HF.sub (by kernel_rfl), HM.picks [1, 0, 2] (by decide) rfl, hcb⟩
   clear HF HM; rintro a w13 ⟨Ab, cb, g7, HF, HM, hcb⟩
   refine wp_seq (wp_seq (qa ?_))
   refine fp HF 2 0 [(64, .bool false)] fun a HF => ?_
   refine qb rfl (qe HF rfl (wp_skip (wp_seq (qa ?_))))
   refine fy HF HM 0 rfl rfl rfl (v := .agg (b.cells Ab cb)) (Yl.zg rfl rfl si_bk rfl (fun _ h => qd (h.blk (i := 0) rfl))) fun a HF => ?_
   refine fp HF 1 1 [(67, vI ((lenR l).1))] fun a HF => ?_
   refine fo HF 2 rfl rfl ?_
   refine e_sa HF HM 2 rfl rfl rfl rfl rfl si_bk rfl rfl (qb4 _ _ _) ?_
   clear HM; intro w16_2 HM
   refine fp HF 2 3 [(4, vI 0), (3, vI ((lenR l).1))] fun a HF => ?_
   refine qb rfl (wp_ret ?_)
   exact ret3 rfl HF (.cellS (i := 2) HF HM rfl rfl si_bk rfl) (.tmp HF rfl) (.tmp HF rfl) (qhh (qhi (e := 0) hl0 hLb (by unfold blkOf; rw [if_neg (by rw [hs]; decide), if_neg (fun hh => hh hmg), if_neg (by omega), if_neg (by omega), hp])) (HM.own (i := 1) rfl) hcb HM.below)
 have hd45 := bne_eq_false_iff_eq.1 hb45
 have hkd : Lb.getD 7 0 = 1 ∨ Lb.getD 7 0 = 2 := by omega
 refine fp HF 6 5 [(40, .bool false)] fun a HF => ?_
 refine qb rfl ?_
 rcases hp : qdv (Lb.getD 7 0) ((Lb.take (Lb.length - 4)).drop 8) with _ | b
 ·
  refine qe HF rfl (wp_skip ?_)
  refine qay (fun aS wS => ∃ (cs : Array Value) (g7 : Nat), Fr aS 68 [] [(8, .bool false), (7, vP g7 0), (40, .bool false), (34, .bool false), (26, .bool false), (21, .bool false), (0, .slice (some ⟨gA, oA, none⟩) ((lenR l).1) cp), (15, .bool false), (6, vI ((lenR l).2)), (5, vI ((lenR l).1)), (4, vI 0), (3, vI 0), (2, vP g2 0)] ∧ Mem w wS [.blk g7 cs 41, .blk g2 #[vB 0, vB 0, vI 0, vI 0, .slice none 0 0] 41] ∧ (cs.size = 5) ∧ (∀ v ∈ cs.toList, v.oneCell' = true)) ?_ ?_
  ·
   refine qae HM [.blk g2 #[vB 0, vB 0, vI 0, vI 0, .slice none 0 0] 41] [0] [12] fun HM HS => ?_
   refine ap HF (fun _ => HS) [0, 3, 4] #[true, false, false, true, true, false, false, false, false, false, false, false, false, false] [(57, vI ((lenR l).1)), (56, .slice (some ⟨gA, oA, none⟩) ((lenR l).1) cp), (53, .slice (some ⟨gA, oA, none⟩) ((lenR l).1) cp)] fun a HF => ?_
   refine ay HF HS 1 rfl rfl rfl (v := vP gA (oA + 7)) (Yl.indexAddr (ad := ⟨gA, oA, none⟩) (y := 7) (sz := 1) rfl rfl rfl (by omega) (by kernel_rfl)) fun a HF => ?_
   have hx359 := getD_lt hlL (k := 7) (by first | omega | (simp; omega))
   refine ay HF HS 2 rfl rfl rfl (v := vB (Lb.getD 7 0)) (Yl.qi rfl rfl (by kernel_rfl) (fun _ h => (h.old hrL).qbk (k := 7) (qas (F := B8) (k := 7) (x := (Lb.getD 7 0)) ((getD_at 0 (k := 7) (by first | omega | (simp; omega))))))) fun a HF => ?_
   refine qo HF (fun _ => HS) (i := 5) rfl rfl (d := 58) rfl (by decide) (by kernel_rfl) (fun _ _ _ h => h) (v := vI (IntKind.i64.wrap (((lenR l).1 : Int) - 4))) (fun _ => Yl.pure (by kernel_rfl)) fun a HF => ?_
   replace HF := HF.sp 58 (vI ((lenR l).1 - 4 : Nat)) rfl (ql (by omega) (by omega))
   refine ay HF HS 6 rfl rfl rfl (v := .slice (if cp = 8 then some ⟨gA, oA, none⟩ else (some ⟨gA, oA, none⟩ : Option Addr).map (·.add (8 * 1))) (((lenR l).1 - 4) - 8) (cp - 8)) (Yl.qkl ei_u8 (i := 8) (j := (lenR l).1 - 4) rfl rfl rfl rfl (by omega) (by omega)) fun a HF => ?_
   refine qg [7, 11] (by kernel_rfl) rfl ?_
   refine all_cons ?_ ?_
   ·refine qj HF (i := 7) rfl rfl ?_
    refine e_cl HF [vB (Lb.getD 7 0), .slice (if cp = 8 then some ⟨gA, oA, none⟩ else (some ⟨gA, oA, none⟩ : Option Addr).map (·.add (8 * 1))) (((lenR l).1 - 4) - 8) (cp - 8)] rfl rfl ((qbh (Lb.getD 7 0) hkd _ (((lenR l).1 - 4) - 8) (cp - 8) ((Lb.take (Lb.length - 4)).drop 8) B _ (hL.mem HM hB) (HM.le hB) (HM.old (by rw [hnL]; exact hrL.qkm (i := 8) (j := (lenR l).1 - 4) (by omega) (by omega) (by omega))) (by omega) (by rw [List.length_drop, List.length_take]; omega) (by omega) (qa0 (qa7 hlL _) _)).mono (fun _ _ h => h.none hp)) ?_
    rintro _ w60 ⟨⟨cs, rfl, hs5, h1⟩, hbw⟩
    refine ⟨_, rfl, ?_⟩
    replace HM := HM.call hbw
    clear HF; intro a HF
    refine keepS (HM.picks [0] (by decide) rfl) (fun HS => ?_)
    refine ap HF (fun _ => HS) [8, 9, 10] #[true, true, true, true, true, true, true, true, true, true, true, false, false, false] [(62, .bool false), (61, .agg cs)] fun a HF => ?_
    refine qg [11] (by kernel_rfl) rfl ?_
    refine all_cons ?_ all_nil
    refine qj HF (i := 11) rfl rfl ?_
    refine qp HF HM (cs := #[vB 0, vB 0, vI 0, vI 0, .slice none 0 0]) rfl (by kernel_rfl) rfl (by decide) ?_
    clear HF HM; intro a w7 g7 HF HM
    refine keepS (HM.picks [1] (by decide) rfl) (fun HS => ?_)
    refine qg [12] (by kernel_rfl) rfl ?_
    refine all_cons ?_ all_nil
    refine qj HF (i := 12) rfl rfl ?_
    refine e_sa HF HM 0 rfl rfl rfl rfl rfl si_bk rfl hs5 (h1) ?_
    clear HM; intro w13_12 HM
    refine noS (by kernel_rfl) ?_
    refine ap HF (pastS (by kernel_rfl)) [13] #[true, true, true, true, true, true, true, true, true, true, true, true, true, true] [(8, .bool false)] fun a HF => ?_
    refine qn (by kernel_rfl) ?_
    exact ⟨cs, g7, HF.sub (by kernel_rfl), HM.picks [0, 1] (by decide) rfl, hs5, h1⟩
   refine all_cons ?_ all_nil
   refine qj HF (i := 11) rfl rfl ?_
   refine qp HF HM (cs := #[vB 0, vB 0, vI 0, vI 0, .slice none 0 0]) rfl (by kernel_rfl) rfl (by decide) ?_
   clear HF HM; intro a w7 g7 HF HM
   refine keepS (HM.picks [1] (by decide) rfl) (fun HS => ?_)
   refine qg [7] (by kernel_rfl) rfl ?_
   refine all_cons ?_ all_nil
   refine qj HF (i := 7) rfl rfl ?_
   refine e_cl HF [vB (Lb.getD 7 0), .slice (if cp = 8 then some ⟨gA, oA, none⟩ else (some ⟨gA, oA, none⟩ : Option Addr).map (·.add (8 * 1))) (((lenR l).1 - 4) - 8) (cp - 8)] rfl rfl ((qbh (Lb.getD 7 0) hkd _ (((lenR l).1 - 4) - 8) (cp - 8) ((Lb.take (Lb.length - 4)).drop 8) B _ (hL.mem HM hB) (HM.le hB) (HM.old (by rw [hnL]; exact hrL.qkm (i := 8) (j := (lenR l).1 - 4) (by omega) (by omega) (by omega))) (by omega) (by rw [List.length_drop, List.length_take]; omega) (by omega) (qa0 (qa7 hlL _) _)).mono (fun _ _ h => h.none hp)) ?_
   rintro _ w60 ⟨⟨cs, rfl, hs5, h1⟩, hbw⟩
   refine ⟨_, rfl, ?_⟩
   replace HM := HM.call hbw
   clear HF; intro a HF
   refine keepS (HM.picks [1] (by decide) rfl) (fun HS => ?_)
   refine ap HF (fun _ => HS) [8, 9, 10] #[true, true, true, true, true, true, true, true, true, true, true, true, false, false] [(62, .bool false), (61, .agg cs)] fun a HF => ?_
   refine qg [12] (by kernel_rfl) rfl ?_
   refine all_cons ?_ all_nil
   refine qj HF (i := 12) rfl rfl ?_
   refine e_sa HF HM 0 rfl rfl rfl rfl rfl si_bk rfl hs5 (h1) ?_
   clear HM; intro w13_12 HM
   refine noS (by kernel_rfl) ?_
   refine ap HF (pastS (by kernel_rfl)) [13] #[true, true, true, true, true, true, true, true, true, true, true, true, true, true] [(8, .bool false)] fun a HF => ?_
   refine qn (by kernel_rfl) ?_
   exact ⟨cs, g7, HF.sub (by kernel_rfl), HM.picks [0, 1] (by decide) rfl, hs5, h1⟩
  clear HF HM; rintro a w13 ⟨cs, g7, HF, HM, hs5, h1⟩
  refine wp_seq (wp_seq (qa ?_))
  refine fp HF 2 0 [(64, .bool true)] fun a HF => ?_
  refine qb rfl (qf HF rfl (wp_seq (qa ?_)))
  refine fy HF HM 0 rfl rfl rfl (v := .agg #[vB 0, vB 0, vI 0, vI 0, .slice none 0 0]) (Yl.build (vs := []) rfl (by kernel_rfl) (by kernel_rfl)) fun a HF => ?_
  refine fo HF 1 rfl rfl ?_
  refine e_sa HF HM 1 rfl rfl rfl rfl rfl si_bk rfl rfl (by simp [Value.oneCell']) ?_
  clear HM; intro w15_1 HM
  refine fp HF 2 2 [(4, vI 106), (3, vI 0)] fun a HF => ?_
  refine qb rfl (wp_ret ?_)
  exact ret3 rfl HF (.cellS (i := 1) HF HM rfl rfl si_bk rfl) (.tmp HF rfl) (.tmp HF rfl) (qah (qa9 hl0 hLb (by unfold blkOf; rw [if_neg (by rw [hs]; decide), if_neg (fun hh => hh hmg), if_neg (by omega), if_neg (by omega), hp])) HM.below)
 ·
  refine qe HF rfl (wp_skip ?_)
  refine qay (fun aS wS => ∃ (Ab : Option Addr) (cb : Nat) (g7 : Nat), Fr aS 68 [] [(8, .bool true), (7, vP g7 0), (40, .bool false), (34, .bool false), (26, .bool false), (21, .bool false), (0, .slice (some ⟨gA, oA, none⟩) ((lenR l).1) cp), (15, .bool false), (6, vI ((lenR l).2)), (5, vI ((lenR l).1)), (4, vI 0), (3, vI 0), (2, vP g2 0)] ∧ Mem w wS [.blk g7 (b.cells Ab cb) 41, .row (.slice Ab b.evs.length cb) b.evs.length (b.evs.flatMap evL) 45 11, .blk g2 #[vB 0, vB 0, vI 0, vI 0, .slice none 0 0] 41] ∧ (b.evs.length ≤ cb)) ?_ ?_
  ·
   refine qae HM [.blk g2 #[vB 0, vB 0, vI 0, vI 0, .slice none 0 0] 41] [0] [12] fun HM HS => ?_
   refine ap HF (fun _ => HS) [0, 3, 4] #[true, false, false, true, true, false, false, false, false, false, false, false, false, false] [(57, vI ((lenR l).1)), (56, .slice (some ⟨gA, oA, none⟩) ((lenR l).1) cp), (53, .slice (some ⟨gA, oA, none⟩) ((lenR l).1) cp)] fun a HF => ?_
   refine ay HF HS 1 rfl rfl rfl (v := vP gA (oA + 7)) (Yl.indexAddr (ad := ⟨gA, oA, none⟩) (y := 7) (sz := 1) rfl rfl rfl (by omega) (by kernel_rfl)) fun a HF => ?_
   have hx438 := getD_lt hlL (k := 7) (by first | omega | (simp; omega))
   refine ay HF HS 2 rfl rfl rfl (v := vB (Lb.getD 7 0)) (Yl.qi rfl rfl (by kernel_rfl) (fun _ h => (h.old hrL).qbk (k := 7) (qas (F := B8) (k := 7) (x := (Lb.getD 7 0)) ((getD_at 0 (k := 7) (by first | omega | (simp; omega))))))) fun a HF => ?_
   refine qo HF (fun _ => HS) (i := 5) rfl rfl (d := 58) rfl (by decide) (by kernel_rfl) (fun _ _ _ h => h) (v := vI (IntKind.i64.wrap (((lenR l).1 : Int) - 4))) (fun _ => Yl.pure (by kernel_rfl)) fun a HF => ?_
   replace HF := HF.sp 58 (vI ((lenR l).1 - 4 : Nat)) rfl (ql (by omega) (by omega))
   refine ay HF HS 6 rfl rfl rfl (v := .slice (if cp = 8 then some ⟨gA, oA, none⟩ else (some ⟨gA, oA, none⟩ : Option Addr).map (·.add (8 * 1))) (((lenR l).1 - 4) - 8) (cp - 8)) (Yl.qkl ei_u8 (i := 8) (j := (lenR l).1 - 4) rfl rfl rfl rfl (by omega) (by omega)) fun a HF => ?_
   refine qg [7, 11] (by kernel_rfl) rfl ?_
   refine all_cons ?_ ?_
   ·refine qj HF (i := 7) rfl rfl ?_
    refine e_cl HF [vB (Lb.getD 7 0), .slice (if cp = 8 then some ⟨gA, oA, none⟩ else (some ⟨gA, oA, none⟩ : Option Addr).map (·.add (8 * 1))) (((lenR l).1 - 4) - 8) (cp - 8)] rfl rfl ((qbh (Lb.getD 7 0) hkd _ (((lenR l).1 - 4) - 8) (cp - 8) ((Lb.take (Lb.length - 4)).drop 8) B _ (hL.mem HM hB) (HM.le hB) (HM.old (by rw [hnL]; exact hrL.qkm (i := 8) (j := (lenR l).1 - 4) (by omega) (by omega) (by omega))) (by omega) (by rw [List.length_drop, List.length_take]; omega) (by omega) (qa0 (qa7 hlL _) _)).mono (fun _ _ h => h.some hp)) ?_
    rintro _ w60 ⟨⟨Ab, cb, rfl, ho, hcb⟩, hbw⟩
    refine ⟨_, rfl, ?_⟩
    replace HM := HM.callRow hbw ho
    clear HF; intro a HF
    refine keepS (HM.picks [1] (by decide) rfl) (fun HS => ?_)
    refine ap HF (fun _ => HS) [8, 9, 10] #[true, true, true, true, true, true, true, true, true, true, true, false, false, false] [(62, .bool true), (61, .agg (b.cells Ab cb))] fun a HF => ?_
    refine qg [11] (by kernel_rfl) rfl ?_
    refine all_cons ?_ all_nil
    refine qj HF (i := 11) rfl rfl ?_
    refine qp HF HM (cs := #[vB 0, vB 0, vI 0, vI 0, .slice none 0 0]) rfl (by kernel_rfl) rfl (by decide) ?_
    clear HF HM; intro a w7 g7 HF HM
    refine keepS (HM.picks [2] (by decide) rfl) (fun HS => ?_)
    refine qg [12] (by kernel_rfl) rfl ?_
    refine all_cons ?_ all_nil
    refine qj HF (i := 12) rfl rfl ?_
    refine e_sa HF HM 0 rfl rfl rfl rfl rfl si_bk rfl rfl (qb4 _ _ _) ?_
    clear HM; intro w13_12 HM
    refine noS (by kernel_rfl) ?_
    refine ap HF (pastS (by kernel_rfl)) [13] #[true, true, true, true, true, true, true, true, true, true, true, true, true, true] [(8, .bool true)] fun a HF => ?_
    refine qn (by kernel_rfl) ?_
    exact ⟨Ab, cb, g7, HF.sub (by kernel_rfl), HM.picks [0, 1, 2] (by decide) rfl, hcb⟩
   refine all_cons ?_ all_nil
   refine qj HF (i := 11) rfl rfl ?_
   refine qp HF HM (cs := #[vB 0, vB 0, vI 0, vI 0, .slice none 0 0]) rfl (by kernel_rfl) rfl (by decide) ?_
   clear HF HM; intro a w7 g7 HF HM
   refine keepS (HM.picks [1] (by decide) rfl) (fun HS => ?_)
   refine qg [7] (by kernel_rfl) rfl ?_
   refine all_cons ?_ all_nil
   refine qj HF (i := 7) rfl rfl ?_
   refine e_cl HF [vB (Lb.getD 7 0), .slice (if cp = 8 then some ⟨gA, oA, none⟩ else (some ⟨gA, oA, none⟩ : Option Addr).map (·.add (8 * 1))) (((lenR l).1 - 4) - 8) (cp - 8)] rfl rfl ((qbh (Lb.getD 7 0) hkd _ (((lenR l).1 - 4) - 8) (cp - 8) ((Lb.take (Lb.length - 4)).drop 8) B _ (hL.mem HM hB) (HM.le hB) (HM.old (by rw [hnL]; exact hrL.qkm (i := 8) (j := (lenR l).1 - 4) (by omega) (by omega) (by omega))) (by omega) (by rw [List.length_drop, List.length_take]; omega) (by omega) (qa0 (qa7 hlL _) _)).mono (fun _ _ h => h.some hp)) ?_
   rintro _ w60 ⟨⟨Ab, cb, rfl, ho, hcb⟩, hbw⟩
   refine ⟨_, rfl, ?_⟩
   replace HM := HM.callRow hbw ho
   clear HF; intro a HF
   refine keepS (HM.picks [2] (by decide) rfl) (fun HS => ?_)
   refine ap HF (fun _ => HS) [8, 9, 10] #[true, true, true, true, true, true, true, true, true, true, true, true, false, false] [(62, .bool true), (61, .agg (b.cells Ab cb))] fun a HF => ?_
   refine qg [12] (by kernel_rfl) rfl ?_
   refine all_cons ?_ all_nil
   refine qj HF (i := 12) rfl rfl ?_
   refine e_sa HF HM 1 rfl rfl rfl rfl rfl si_bk rfl rfl (qb4 _ _ _) ?_
   clear HM; intro w13_12 HM
   refine noS (by kernel_rfl) ?_
   refine ap HF (pastS (by kernel_rfl)) [13] #[true, true, true, true, true, true, true, true, true, true, true, true, true, true] [(8, .bool true)] fun a HF => ?_
   refine qn (by kernel_rfl) ?_
   exact ⟨Ab, cb, g7, HF.sub (by kernel_rfl), HM.picks [1, 0, 2] (by decide) rfl, hcb⟩
  clear HF HM; rintro a w13 ⟨Ab, cb, g7, HF, HM, hcb⟩
  refine wp_seq (wp_seq (qa ?_))
  refine fp HF 2 0 [(64, .bool false)] fun a HF => ?_
  refine qb rfl (qe HF rfl (wp_skip (wp_seq (qa ?_))))
  refine fy HF HM 0 rfl rfl rfl (v := .agg (b.cells Ab cb)) (Yl.zg rfl rfl si_bk rfl (fun _ h => qd (h.blk (i := 0) rfl))) fun a HF => ?_
  refine fp HF 1 1 [(67, vI ((lenR l).1))] fun a HF => ?_
  refine fo HF 2 rfl rfl ?_
  refine e_sa HF HM 2 rfl rfl rfl rfl rfl si_bk rfl rfl (qb4 _ _ _) ?_
  clear HM; intro w16_2 HM
  refine fp HF 2 3 [(4, vI 0), (3, vI ((lenR l).1))] fun a HF => ?_
  refine qb rfl (wp_ret ?_)
  exact ret3 rfl HF (.cellS (i := 2) HF HM rfl rfl si_bk rfl) (.tmp HF rfl) (.tmp HF rfl) (qhh (qhi (e := 0) hl0 hLb (by unfold blkOf; rw [if_neg (by rw [hs]; decide), if_neg (fun hh => hh hmg), if_neg (by omega), if_neg (by omega), hp])) (HM.own (i := 1) rfl) hcb HM.below)
theorem qaz.as {w w' : World} {er er' : Nat} {R R' : List Nat} {r : Ending} (h : qaz w er R r w') (h1 : er = er') (h2 : R = R') : qaz w er' R' r w' := by subst h1; subst h2; exact h
theorem qpt (b : Bk) (hok : b.Ok) (A : Option Addr) (c B : Nat) (w : World) (hL : LaidX B w) (hB : B ≤ w.heap.size) (hr : Rd w w.heap.size 11 A b.evs.length (b.evs.flatMap evL)) (hn : b.evs.length ≤ 1000000) {er : Nat} {R : List Nat} (h1 : b.err = er) (h2 : b.out = R) : Calls Tryd.prog 24 #[.agg (b.cells A c)] w (qaz w er R) :=
 (qhj b hok A c B w hL hB hr hn).mono fun _ _ h => h.as h1 h2
theorem qge (b : Bk) (hok : b.Ok) (A : Option Addr) (c B : Nat) (w : World) (hL : LaidX B w) (hB : B ≤ w.heap.size) (hr : Rd w w.heap.size 11 A b.evs.length (b.evs.flatMap evL)) (hn : b.evs.length ≤ 1000000) {er : Nat} (h1 : b.err = er) : Calls Tryd.prog 13 #[.agg (b.cells A c)] w (Is w (.int .i64 (er : Int))) :=
 (qna b hok A c B w hL hB hr hn).mono fun _ _ h => by rw [h1] at h; exact h
theorem qig (A : Option Addr) (n cp : Nat) (l : List Nat) (B : Nat) (w : World) (hL : LaidX B w) (hB : B ≤ w.heap.size) (hr : Rd w w.heap.size 1 A n (l.map B8)) (hc : n ≤ cp) (hln : l.length = n) (hn : n ≤ 9223372036854775807) (hl : ∀ b ∈ l, b < 256) {b : Bk} {m er : Nat} (h : readB l = (b, m, er)) :
  Calls Tryd.prog 47 #[.slice A n cp] w fun r w' => (∃ A c, r = .returned (.tuple #[.agg (b.cells A c), .int .i64 (m : Int), .int .i64 (er : Int)]) ∧ w'.ownsRow w.heap.size 45 11 (.slice A b.evs.length c) b.evs.length (b.evs.flatMap evL) ∧ b.evs.length ≤ c) ∧ Below w.heap.size w w' :=
 (qpq A n cp l B w hL hB hr hc hln hn hl).mono fun _ _ hh => by rw [h] at hh; exact hh
def tickE : Ev := { Ev.zero with seq := 5, time := 340, cpu := 2, kind := 5, ticks := 40, got := 7 }
def awX : List Nat := [13, 0, 0, 0, 113, 116, 1, 2, 7, 91, 144, 57, 154]
theorem qvb : tickE.Ok := ⟨⟨by decide, by decide⟩, ⟨by decide, by decide⟩, by decide, by decide, ⟨by decide, by decide⟩, ⟨by decide, by decide⟩, ⟨by decide, by decide⟩, ⟨by decide, by decide⟩, ⟨by decide, by decide⟩, by decide, ⟨by decide, by decide⟩⟩
theorem qs0 : ∀ b ∈ awX, b < 256 := by decide
def atOf (b : Bs) (l : List Ev) : Nat → Bs
 | 0 => b
 | k + 1 => (l.getD k Ev.zero).at
theorem qjr : ∀ (l : List Ev) (b : Bs) (k : Nat), k < l.length → recs b (l.take (k + 1)) = recs b (l.take k) ++ zi (atOf b l k) (l.getD k Ev.zero)
 | [], _, _, h => by simp at h
 | e :: r, b, 0, _ => by simp [recs, atOf]
 | e :: r, b, k + 1, h => by
  have h' : k < r.length := by simpa using h
  have ih := qjr r e.at k h'
  rw [List.take_succ_cons, List.take_succ_cons, recs, recs, ih, List.append_assoc]
  congr 2
  cases k with
  | zero => rfl
  | succ k => rfl
theorem qjs {cpu : Nat} : ∀ (l : List Ev) (p : Option Ev) (b : Bs) (k : Nat), Chain cpu p b l → k < l.length → Fit (atOf b l k) (l.getD k Ev.zero)
 | [], _, _, _, _, h => by simp at h
 | e :: r, p, b, 0, hc, _ => hc.1
 | e :: r, p, b, k + 1, hc, h => by
  have h' : k < r.length := by simpa using h
  have ih := qjs r (some e) e.at k hc.2.2.2 h'
  cases k with
  | zero => exact ih
  | succ k => exact ih
theorem qtu {b : Bs} {e : Ev} (h : Fit b e) : qad b e = 0 ∧ qbr b e = zi b e := by
 have h1 : qad b e = 0 := by
  unfold qad
  rw [if_neg (by have := h.check; omega), if_pos ⟨h.right, h.behind⟩]
 exact ⟨h1, by unfold qbr; rw [if_pos h1]⟩
def Bk.atK (b : Bk) (k : Nat) : Bs := atOf b.base b.evs k
def Bk.sz (b : Bk) (k : Nat) : Nat := 12 + (vbytes b.cpu).length + (vbytes b.lost.toNat).length + (vbytes b.base.seq.toNat).length + (vbytes b.base.time.toNat).length + (recs b.base (b.evs.take k)).length
def Bk.big (b : Bk) (k : Nat) : Bool := decide (4096 < b.sz k + (vbytes k).length)
def Bk.qdt (b : Bk) : Nat := ((List.range b.evs.length).find? fun i => b.big (i + 1)).getD b.evs.length
def Bk.fill (b : Bk) : Nat × Nat := if b.fits = false then (0, 107) else (b.qdt, 0)
theorem sz_le (b : Bk) (k : Nat) : b.sz k ≤ 52 + 61 * k := by
 unfold Bk.sz
 have h1 := qr b.cpu
 have h2 := qr b.lost.toNat
 have h4 := qr b.base.seq.toNat
 have h5 := qr b.base.time.toNat
 have h6 := qfp (b.evs.take k) b.base
 rw [List.length_take] at h6
 have : min k b.evs.length ≤ k := Nat.min_le_left _ _
 have h7 : 61 * min k b.evs.length ≤ 61 * k := Nat.mul_le_mul_left _ this
 omega
theorem qtv (b : Bk) : b.sz 0 = 8 + ([b.cpu, b.lost.toNat, b.base.seq.toNat, b.base.time.toNat].flatMap vbytes).length + 4 := by
 unfold Bk.sz
 simp [recs]
 omega
theorem qpv {b : Bk} {k : Nat} (h : k < b.evs.length) : b.sz (k + 1) = b.sz k + (zi (b.atK k) (b.evs.getD k Ev.zero)).length := by
 unfold Bk.sz Bk.atK
 rw [qjr _ _ _ h, List.length_append]
 omega
theorem ql5 {b : Bk} {k : Nat} (hk : k < b.evs.length) (hno : ∀ i, i < k → b.big (i + 1) = false) (h : b.big (k + 1) = true) : b.qdt = k := by
 unfold Bk.qdt
 have : (List.range b.evs.length).find? (fun i => b.big (i + 1)) = some k := by
  rw [List.find?_eq_some_iff_append]
  refine ⟨h, List.range k, List.range' (k + 1) (b.evs.length - k - 1), ?_, ?_⟩
  ·rw [List.range_eq_range', List.range_eq_range']
   have e1 : b.evs.length = k + (b.evs.length - k) := by omega
   have e2 : b.evs.length - k = (b.evs.length - k - 1) + 1 := by omega
   conv => lhs; rw [e1, ← List.range'_append_1, e2, List.range'_succ]
   simp
  ·intro i hi
   have := hno i (List.mem_range.1 hi)
   simp [this]
 rw [this]
 rfl
theorem qgf {b : Bk} (hno : ∀ i, i < b.evs.length → b.big (i + 1) = false) : b.qdt = b.evs.length := by
 unfold Bk.qdt
 have : (List.range b.evs.length).find? (fun i => b.big (i + 1)) = none := by
  rw [List.find?_eq_none]
  intro i hi
  have := hno i (List.mem_range.1 hi)
  simp [this]
 rw [this]
 rfl
theorem qih {w w' : World} {b : Bk} {n e : Nat} (h : b.fill = (n, e)) (hb : Below w.heap.size w w') : Is w (.tuple #[.int .i64 (b.fill.1 : Int), .int .i64 (b.fill.2 : Int)]) (.returned (.tuple #[.int .i64 (n : Int), .int .i64 (e : Int)])) w' := by rw [h]; exact ⟨rfl, hb⟩
structure Sb where
 e : Bool
 cpu : Nat
 lost : Nat
 b : Bs
 l : List Sm
structure Sb.Ok (x : Sb) : Prop where
 cpu : x.cpu < 256
 lost : x.lost < 4294967296
 b : x.b.Ok
 l : ∀ y ∈ x.l, y.Ok
def Sb.cells (x : Sb) (A : Option Addr) (c : Nat) : Array Value := #[.bool x.e, .int .u8 (x.cpu : Int), .int .u32 (x.lost : Int), .int .i64 x.b.seq, .int .i64 x.b.time, .slice A x.l.length c]
def Sb.es (x : Sb) : List Ev := madeL x.cpu x.b (x.l.take 60)
def Sb.made (x : Sb) : Bk := if x.e = true then ⟨2, 0, 0, 1 + pickZ x.b.seq 281474976710657, []⟩ else ⟨1, x.cpu % 64, if x.es.length = 0 ∧ x.lost = 0 then 1 else (x.lost : Int), 0, x.es⟩
theorem qqq (b : Bk) (hok : b.Ok) (A : Option Addr) (c B : Nat) (w : World) (hL : LaidX B w) (hB : B ≤ w.heap.size) (hr : Rd w w.heap.size 11 A b.evs.length (b.evs.flatMap evL)) (hn : b.evs.length ≤ 1000000) :
    Calls Tryd.prog 38 #[.agg (b.cells A c)] w (Is w (.tuple #[.int .i64 (b.fill.1 : Int), .int .i64 (b.fill.2 : Int)])) := by
 refine qh (vs := [.agg (b.cells A c)]) Tryd.func38 rfl rfl (by kernel_rfl) (σ0 := [(0, .agg (b.cells A c))]) rfl ?_
 intro a HF
 have HM := Mem.start w
 refine wp_seq (qa ?_)
 refine fo HF 0 rfl rfl ?_
 refine e_box HF HM (cs := (b.cells A c)) rfl rfl rfl rfl (by decide) ?_
 clear HF HM; intro a w1 g1 HF HM
 refine fp HF 2 1 [(3, vI 0), (2, vI 0)] fun a HF => ?_
 refine qb rfl (wp_seq (wp_seq (qa ?_)))
 refine fy HF HM 0 rfl rfl rfl (v := .agg (b.cells A c)) (Yl.zg rfl rfl si_bk rfl (fun _ h => qd (h.blk (i := 0) rfl))) fun a HF => ?_
 refine fo HF 1 rfl rfl ?_
 refine e_is HF HM [.agg (b.cells A c)] (.bool b.fits) rfl rfl (qdn b hok A c B _ (hL.mem HM hB) (HM.le hB) (HM.old hr) hn) fun w11 hbw HM a HF => ?_
 refine fp HF 1 2 [(12, .bool (!b.fits))] fun a HF => ?_
 refine qb rfl ?_
 rcases HF.tf 12 rfl with ⟨hb12, HF⟩ | ⟨hb12, HF⟩
 ·
  have hf : b.fits = false := by simpa using hb12
  refine qf HF rfl (wp_seq (qa ?_))
  refine fp HF 2 0 [(3, vI 107), (2, vI 0)] fun a HF => ?_
  refine qb rfl (wp_ret ?_)
  exact ret2 rfl HF (.tmp HF rfl) (.tmp HF rfl) (qih (by unfold Bk.fill; rw [if_pos hf]) HM.below)
 have hf : b.fits = true := by simpa using hb12
 refine qe HF rfl (wp_skip (wp_seq (wp_seq (qa ?_))))
 refine fp HF 1 0 [(13, vP g1 4)] fun a HF => ?_
 refine fy HF HM 1 rfl rfl rfl (v := .slice A b.evs.length c) (Yl.qi rfl rfl (by kernel_rfl) (fun _ h => h.cell (i := 0) rfl (rfl))) fun a HF => ?_
 refine fy HF HM 2 rfl rfl rfl (Yl.len rfl rfl (by kernel_rfl)) fun a HF => ?_
 refine fp HF 1 3 [(16, .bool ((b.evs.length : Int) == (0 : Int)))] fun a HF => ?_
 refine qb rfl ?_
 rcases HF.tf 16 rfl with ⟨hb16, HF⟩ | ⟨hb16, HF⟩
 ·
  have hd16 := eq_of_beq hb16
  refine qf HF rfl (wp_seq (qa ?_))
  refine fp HF 2 0 [(3, vI 0), (2, vI 0)] fun a HF => ?_
  refine qb rfl (wp_ret ?_)
  exact ret2 rfl HF (.tmp HF rfl) (.tmp HF rfl) (qih (by unfold Bk.fill; rw [if_neg (by rw [hf]; decide), qgf (fun i hi => absurd hi (by omega)), show b.evs.length = 0 by omega]) HM.below)
 have hd16 := ne_of_beq_false hb16
 have hk : b.kind ≠ 2 := fun h2 => by have := qjj hf h2; omega
 obtain ⟨m0, m1, m2, m3, m4⟩ := qji hf hk
 obtain ⟨q1, q2, q3, q4⟩ := qlz hok hf hk (by omega)
 obtain ⟨e0, r0, g0⟩ := qid hok (qfo hf hk).2 (by omega)
 have hch := g0.chain
 rw [← g0.base] at hch
 refine qe HF rfl (wp_skip (wp_seq (qa ?_)))
 refine fy HF HM 0 rfl rfl rfl (v := .agg (b.cells A c)) (Yl.zg rfl rfl si_bk rfl (fun _ h => qd (h.blk (i := 0) rfl))) fun a HF => ?_
 refine fo HF 1 rfl rfl ?_
 refine e_is HF HM [.agg (b.cells A c)] (.agg b.base.cells) rfl rfl (ql2 b A c _ (HM.old hr) (by omega)) fun w18 hbw HM a HF => ?_
 refine fo HF 2 rfl rfl ?_
 refine qp HF HM (cs := #[vI 0, vI 0]) rfl (by kernel_rfl) rfl (by decide) ?_
 clear HF HM; intro a w4 g4 HF HM
 refine fo HF 3 rfl rfl ?_
 refine e_sa HF HM 0 rfl rfl rfl rfl rfl ⟨(by kernel_rfl), (by kernel_rfl)⟩ rfl rfl (qsm b.base) ?_
 clear HM; intro w5_3 HM
 refine qb rfl (wp_seq (qa ?_))
 refine fp HF 1 0 [(19, vP g1 1)] fun a HF => ?_
 refine fy HF HM 1 rfl rfl rfl (v := vB b.cpu) (Yl.qi rfl rfl (by kernel_rfl) (fun _ h => h.cell (i := 1) rfl (rfl))) fun a HF => ?_
 refine fp HF 1 2 [(21, vQ (IntKind.u64.wrap (b.cpu : Int)))] fun a HF => ?_
 replace HF := HF.sp 21 (vQ b.cpu) rfl (qap rfl (by omega))
 refine fp HF 1 3 [(22, vP g1 2)] fun a HF => ?_
 refine fy HF HM 4 rfl rfl rfl (v := vI b.lost) (Yl.qi rfl rfl (by kernel_rfl) (fun _ h => h.cell (i := 1) rfl (rfl))) fun a HF => ?_
 refine fp HF 1 5 [(24, vQ (IntKind.u64.wrap b.lost))] fun a HF => ?_
 replace HF := HF.sp 24 (vQ b.lost.toNat) rfl (qap (by omega) (by omega))
 refine fp HF 1 6 [(25, vP g4 0)] fun a HF => ?_
 refine fy HF HM 7 rfl rfl rfl (v := vI b.base.seq) (Yl.qi rfl rfl (by kernel_rfl) (fun _ h => h.cell (i := 0) rfl (rfl))) fun a HF => ?_
 refine fp HF 1 8 [(27, vQ (IntKind.u64.wrap b.base.seq))] fun a HF => ?_
 replace HF := HF.sp 27 (vQ b.base.seq.toNat) rfl (qap (by omega) (by omega))
 refine fp HF 1 9 [(28, vP g4 1)] fun a HF => ?_
 refine fy HF HM 10 rfl rfl rfl (v := vI b.base.time) (Yl.qi rfl rfl (by kernel_rfl) (fun _ h => h.cell (i := 0) rfl (rfl))) fun a HF => ?_
 refine fp HF 1 11 [(30, vQ (IntKind.u64.wrap b.base.time))] fun a HF => ?_
 replace HF := HF.sp 30 (vQ b.base.time.toNat) rfl (qap (by omega) (by omega))
 refine fo HF 12 rfl rfl ?_
 refine zo HF HM (vs := [(0, vQ b.cpu), (1, vQ b.lost.toNat), (2, vQ b.base.seq.toNat), (3, vQ b.base.time.toNat)]) (cs := #[vQ b.cpu, vQ b.lost.toNat, vQ b.base.seq.toNat, vQ b.base.time.toNat]) rfl qit (by decide) rfl (by kernel_rfl) rfl (by decide) ?_
 clear HF HM; intro a w31 g31 HF HM
 refine fo HF 13 rfl rfl ?_
 refine e_cl HF [vS g31 4 4] rfl rfl (qpb _ 4 _ [b.cpu, b.lost.toNat, b.base.seq.toNat, b.base.time.toNat] _ (HM.rdBlk (i := 0) (n := 4) (size := 1) rfl rfl) (by intro x hx; simp only [List.mem_cons, List.not_mem_nil, or_false] at hx; omega) (by omega)) ?_
 rintro _ w32 ⟨⟨A32, c32, rfl, ho, hc32⟩, hbw⟩
 refine ⟨_, rfl, ?_⟩
 replace HM := HM.callRow hbw ho
 clear HF; intro a HF
 have hfl := qa5 [b.cpu, b.lost.toNat, b.base.seq.toNat, b.base.time.toNat]
 refine fy HF HM 14 rfl rfl rfl (Yl.len rfl rfl (by kernel_rfl)) fun a HF => ?_
 refine fp HF 1 15 [(34, vI (IntKind.i64.wrap (8 + ((([b.cpu, b.lost.toNat, b.base.seq.toNat, b.base.time.toNat].flatMap vbytes).length : Nat) : Int))))] fun a HF => ?_
 replace HF := HF.sp 34 (vI (8 + ([b.cpu, b.lost.toNat, b.base.seq.toNat, b.base.time.toNat].flatMap vbytes).length : Nat)) rfl (ql (by omega) (by simp only [List.length_cons, List.length_nil] at hfl; omega))
 refine fp HF 1 16 [(35, vI (IntKind.i64.wrap (((8 + ([b.cpu, b.lost.toNat, b.base.seq.toNat, b.base.time.toNat].flatMap vbytes).length : Nat) : Int) + 4)))] fun a HF => ?_
 replace HF := HF.sp 35 (vI (b.sz 0)) rfl (ql (by rw [qtv]; omega) (by have := sz_le b 0; omega))
 refine fp HF 1 17 [(5, vI (b.sz 0))] fun a HF => ?_
 refine qb rfl (wp_seq (wp_seq (qa ?_)))
 refine fp HF 1 0 [(36, vP g1 4)] fun a HF => ?_
 refine fy HF HM 1 rfl rfl rfl (v := .slice A b.evs.length c) (Yl.qi rfl rfl (by kernel_rfl) (fun _ h => h.cell (i := 3) rfl (rfl))) fun a HF => ?_
 refine fy HF HM 2 rfl rfl rfl (Yl.len rfl rfl (by kernel_rfl)) fun a HF => ?_
 refine fp HF 1 3 [(39, vI 0)] fun a HF => ?_
 refine qb rfl (wp_block ?_)
 replace HM := HM.picks (fs' := [.blk g4 b.base.cells 26, .blk g1 (b.cells A c) 41]) [2, 3] (by decide) rfl
 refine zy (fun mS aS wS => ∃ (k : Nat), (k ≤ b.evs.length) ∧ (∀ i, i < k → b.big (i + 1) = false) ∧ mS = b.evs.length - k ∧ Fr aS 70 [] [(39, vI k), (38, vI b.evs.length), (37, .slice A b.evs.length c), (5, vI (b.sz k)), (4, vP g4 0), (16, .bool false), (12, .bool false), (3, vI 0), (2, vI 0), (1, vP g1 0)] ∧ Mem w wS [.blk g4 ((b.atK k).cells) 26, .blk g1 (b.cells A c) 41]) (m := b.evs.length - 0) ⟨0, Nat.zero_le _, fun i hi => absurd hi (Nat.not_lt_zero _), rfl, HF.sub (by kernel_rfl), HM.picks [0, 1] (by decide) rfl⟩ ?_
 clear HF HM; rintro mS a w_ ⟨k, hk0, hno, rfl, HF, HM⟩
 refine wp_seq (qa ?_)
 refine fp HF 1 0 [(40, .bool (decide ((k : Int) < (b.evs.length : Int))))] fun a HF => ?_
 refine qb rfl (wp_seq ?_)
 rcases HF.tf 40 rfl with ⟨hb40, HF⟩ | ⟨hb40, HF⟩
 ·
  have hd40 := of_decide_eq_true hb40
  have hk40 : k < b.evs.length := by omega
  have hp := qtu (qjs b.evs none b.base k hch hk40)
  have hs0 := sz_le b k
  have hs1 := sz_le b (k + 1)
  have hvb := qr (k + 1)
  refine qf HF rfl (wp_skip (wp_seq (wp_block (wp_seq (qa ?_)))))
  refine fp HF 1 0 [(41, vI k)] fun a HF => ?_
  obtain ⟨gA, oA, rfl, _⟩ := hr.qa2 (Nat.lt_of_le_of_lt (Nat.zero_le _) (show k < b.evs.length from by omega)) (by decide)
  refine fy HF HM 1 rfl rfl rfl (v := vP gA (oA + k * 11)) (Yl.ix gA oA k 11 rfl rfl rfl) fun a HF => ?_
  refine fy HF HM 2 rfl rfl rfl (v := .agg ((b.evs.getD k Ev.zero).cells)) (Yl.zg rfl rfl ⟨(by kernel_rfl), (by kernel_rfl)⟩ rfl (fun _ h => (h.old hr).qdr zw ((getD_at Ev.zero (k := k) (by first | omega | (simp; omega)))))) fun a HF => ?_
  refine fo HF 3 rfl rfl ?_
  refine qp HF HM (cs := #[vI 0, vI 0, vB 0, vB 0, vI 0, vI 0, vI 0, vI 0, vI 0, vQ 0, vI 0]) rfl (by kernel_rfl) rfl (by decide) ?_
  clear HF HM; intro a w7 g7 HF HM
  refine fp HF 1 4 [(6, vI k)] fun a HF => ?_
  refine fo HF 5 rfl rfl ?_
  refine e_sa HF HM 0 rfl rfl rfl rfl rfl ⟨(by kernel_rfl), (by kernel_rfl)⟩ rfl rfl (zp (b.evs.getD k Ev.zero)) ?_
  clear HM; intro w9_5 HM
  refine qb rfl (wp_seq (qa ?_))
  refine fy HF HM 0 rfl rfl rfl (v := .agg ((b.atK k).cells)) (Yl.zg rfl rfl ⟨(by kernel_rfl), (by kernel_rfl)⟩ rfl (fun _ h => qd (h.blk (i := 1) rfl))) fun a HF => ?_
  refine fy HF HM 1 rfl rfl rfl (v := .agg ((b.evs.getD k Ev.zero).cells)) (Yl.zg rfl rfl ⟨(by kernel_rfl), (by kernel_rfl)⟩ rfl (fun _ h => qd (h.blk (i := 0) rfl))) fun a HF => ?_
  refine fo HF 2 rfl rfl ?_
  refine e_cl HF [.agg ((b.atK k).cells), .agg ((b.evs.getD k Ev.zero).cells)] rfl rfl (qtl (b.atK k) (b.evs.getD k Ev.zero) (hok.evs _ (qbo _ (by omega))) B _ (hL.mem HM hB).laid (HM.le hB) (congrArg List.length hp.2) hp.1) ?_
  rintro _ w47 ⟨rfl, hbw⟩
  refine ⟨_, rfl, ?_⟩
  replace HM := HM.call hbw
  clear HF; intro a HF
  refine fp HF 5 3 [(8, vI ((zi (b.atK k) (b.evs.getD k Ev.zero)).length))] fun a HF => ?_
  refine qb rfl (wp_seq (qa ?_))
  refine fp HF 3 0 [(52, vI (IntKind.i64.wrap ((b.sz k : Int) + ((zi (b.atK k) (b.evs.getD k Ev.zero)).length : Int))))] fun a HF => ?_
  replace HF := HF.sp 52 (vI (b.sz (k + 1))) rfl (ql (by rw [qpv (by omega)]; omega) (by omega))
  refine fp HF 1 3 [(5, vI (b.sz (k + 1)))] fun a HF => ?_
  refine qb rfl (wp_seq (wp_seq (qa ?_)))
  refine fp HF 3 0 [(55, vI (IntKind.i64.wrap ((k : Int) + 1))), (53, vI (b.sz (k + 1)))] fun a HF => ?_
  replace HF := HF.sp 55 (vI (k + 1 : Nat)) rfl (ql (by omega) (by omega))
  refine fp HF 1 3 [(56, vQ (IntKind.u64.wrap ((k + 1 : Nat) : Int)))] fun a HF => ?_
  replace HF := HF.sp 56 (vQ (k + 1 : Nat)) rfl (qap rfl (by omega))
  refine fo HF 4 rfl rfl ?_
  refine e_cl HF [vQ (k + 1 : Nat)] rfl rfl (qpu (k + 1) _ (by omega)) ?_
  rintro _ w57 ⟨rfl, hbw⟩
  refine ⟨_, rfl, ?_⟩
  replace HM := HM.call hbw
  clear HF; intro a HF
  refine fp HF 1 5 [(58, vI (IntKind.i64.wrap ((b.sz (k + 1) : Int) + ((vbytes (k + 1)).length : Int))))] fun a HF => ?_
  replace HF := HF.sp 58 (vI (b.sz (k + 1) + ((vbytes (k + 1)).length) : Nat)) rfl (ql (by omega) (by omega))
  refine fp HF 1 6 [(59, .bool (decide (((b.sz (k + 1) + ((vbytes (k + 1)).length) : Nat) : Int) > (4096 : Int))))] fun a HF => ?_
  refine qb rfl ?_
  rcases HF.tf 59 rfl with ⟨hb59, HF⟩ | ⟨hb59, HF⟩
  ·
   have hd59 := of_decide_eq_true hb59
   refine qf HF rfl (wp_seq (qa ?_))
   refine fp HF 3 0 [(3, vI 0), (2, vI k)] fun a HF => ?_
   refine qb rfl (wp_ret ?_)
   exact ret2 rfl HF (.tmp HF rfl) (.tmp HF rfl) (qih (by unfold Bk.fill; rw [if_neg (by rw [hf]; decide), ql5 hk40 hno (by unfold Bk.big; rw [decide_eq_true]; omega)]) HM.below)
  have hd59 := of_decide_eq_false hb59
  refine qe HF rfl (wp_skip (qa ?_))
  refine fp HF 1 0 [(61, vP g7 0)] fun a HF => ?_
  refine fy HF HM 1 rfl rfl rfl (v := vI ((b.evs.getD k Ev.zero).seq)) (Yl.qi rfl rfl (by kernel_rfl) (fun _ h => h.cell (i := 0) rfl (rfl))) fun a HF => ?_
  refine fp HF 1 2 [(63, vP g7 1)] fun a HF => ?_
  refine fy HF HM 3 rfl rfl rfl (v := vI ((b.evs.getD k Ev.zero).time)) (Yl.qi rfl rfl (by kernel_rfl) (fun _ h => h.cell (i := 0) rfl (rfl))) fun a HF => ?_
  refine fy HF HM 4 rfl rfl rfl (v := .agg #[vI ((b.evs.getD k Ev.zero).seq), vI ((b.evs.getD k Ev.zero).time)]) (Yl.build (vs := [(0, vI ((b.evs.getD k Ev.zero).seq)), (1, vI ((b.evs.getD k Ev.zero).time))]) rfl (by kernel_rfl) (by kernel_rfl)) fun a HF => ?_
  refine fo HF 5 rfl rfl ?_
  refine e_sa HF HM 1 rfl rfl rfl rfl rfl ⟨(by kernel_rfl), (by kernel_rfl)⟩ rfl rfl (by simp [Value.oneCell']) ?_
  clear HM; intro w14_5 HM
  refine qb rfl (qa ?_)
  refine fp HF 1 0 [(66, vI (IntKind.i64.wrap ((k : Int) + 1)))] fun a HF => ?_
  replace HF := HF.sp 66 (vI (k + 1 : Nat)) rfl (ql (by omega) (by omega))
  refine fp HF 1 1 [(39, vI (k + 1 : Nat))] fun a HF => ?_
  refine qb rfl ?_
  exact ⟨_, (by omega), k + 1, by omega, fun i hi => (Nat.lt_succ_iff_lt_or_eq.1 hi).elim (hno i) (fun h => by subst h; unfold Bk.big; rw [decide_eq_false]; omega), rfl, HF.sub (by kernel_rfl), HM.picks [1, 2] (by decide) rfl⟩
 have hd40 := of_decide_eq_false hb40
 have hke : k = b.evs.length := by omega
 refine qe HF rfl (wp_exit (wp_seq (qa ?_)))
 refine fp HF 1 0 [(67, vP g1 4)] fun a HF => ?_
 refine fy HF HM 1 rfl rfl rfl (v := .slice A b.evs.length c) (Yl.qi rfl rfl (by kernel_rfl) (fun _ h => h.cell (i := 1) rfl (rfl))) fun a HF => ?_
 refine fy HF HM 2 rfl rfl rfl (Yl.len rfl rfl (by kernel_rfl)) fun a HF => ?_
 refine fp HF 2 3 [(3, vI 0), (2, vI b.evs.length)] fun a HF => ?_
 refine qb rfl (wp_ret ?_)
 exact ret2 rfl HF (.tmp HF rfl) (.tmp HF rfl) (qih (by unfold Bk.fill; rw [if_neg (by rw [hf]; decide), qgf (fun i hi => hno i (by omega))]) HM.below)
theorem qkd : ∀ (l : List Ev) (b : Bs) (e : Ev), recs b (l ++ [e]) = recs b l ++ zi (match l.getLast? with | some q => q.at | none => b) e
 | [], b, e => by simp [recs]
 | x :: l, b, e => by
  rw [List.cons_append, recs, recs, qkd l x.at e, List.append_assoc]
  congr 2
  cases l with
  | nil => rfl
  | cons y r => simp only [List.getLast?_cons, Option.getD_some]
def qca (b : Bs) (l : List Ev) (k : Nat) : List Nat := recs b (l.take k)
structure WriteAt (b : Bs) (l : List Ev) (k : Nat) (bk : Bs) : Prop where
 base : bk = qc5 b l k
 head : 0 < k → l.head?.all b.behind = true
theorem WriteAt.start (b : Bs) (l : List Ev) : WriteAt b l 0 b := ⟨rfl, fun h => by omega⟩
section
variable {b bk : Bs} {l : List Ev} {k : Nat} {e : Ev}
theorem WriteAt.bad (h : WriteAt b l k bk) (hr : (rowR l).2 = 0) (hb : b.right = true) (hk : l[k]? = some e) (hp : qad bk e ≠ 0) : k = 0 := by
 rcases Nat.eq_zero_or_pos k with h0 | h0
 ·exact h0
 ·obtain ⟨hl, he⟩ := List.getElem?_eq_some_iff.1 hk
  have := qlr hr hb (h.head h0) k hl
  rw [he, ← h.base] at this
  exact absurd this hp
theorem WriteAt.fail (h : WriteAt b l k bk) (hr : (rowR l).2 = 0) (hb : b.right = true) (hk : l[k]? = some e) (h0 : k = 0) (hp : qad bk e ≠ 0) : zb b l = qad bk e := by
 subst h0
 have hbk : bk = b := h.base
 subst hbk
 obtain ⟨g1, _, _⟩ := qe1 l none 0 hr
 have hc := g1 e (List.mem_of_getElem? hk)
 have hbh : ¬ bk.behind e = true := by
  intro h1
  unfold qad at hp
  rw [if_neg (by simp [hc]), if_pos ⟨hb, h1⟩] at hp
  exact hp rfl
 have hh : l.head? = some e := by rw [List.head?_eq_getElem?]; exact hk
 unfold zb qad
 rw [if_neg (by omega), if_neg (by simp [hh, hbh]), if_neg (by simp [hc]), if_neg (by simp [hbh])]
theorem WriteAt.up (h : WriteAt b l k bk) (hk : l[k]? = some e) (hp : qad bk e = 0) : qca b l (k + 1) = qca b l k ++ qbr bk e := by
 obtain ⟨hl, he⟩ := List.getElem?_eq_some_iff.1 hk
 unfold qca qbr
 rw [List.take_add_one, hk, if_pos hp, h.base]
 show recs b (l.take k ++ [e]) = _
 rw [qkd]
 congr 2
 cases k with
 | zero => simp [qc5]
 | succ j =>
  rw [show (l.take (j + 1)).getLast? = l[j]? from by rw [List.getLast?_take]; simp [List.getElem?_eq_getElem (show j < l.length by omega)]]
  rfl
theorem WriteAt.next (h : WriteAt b l k bk) (hk : l[k]? = some e) (hp : qad bk e = 0) : WriteAt b l (k + 1) e.at := by
 refine ⟨by show e.at = (match l[k]? with | some e => e.at | none => b); rw [hk], fun _ => ?_⟩
 rcases Nat.eq_zero_or_pos k with h0 | h0
 ·subst h0
  have hbk : bk = b := h.base
  subst hbk
  have hh : l.head? = some e := by rw [List.head?_eq_getElem?]; exact hk
  rw [hh]
  unfold qad at hp
  split at hp
  ·omega
  ·split at hp
   ·rename_i h1; exact h1.2
   ·omega
 ·exact h.head h0
theorem WriteAt.done {w w' : World} {n c : Nat} {A : Option Addr} (h : WriteAt b l n bk) (hr : (rowR l).2 = 0) (hb : b.right = true) (hln : l.length = n) (ho : w'.ownsRow w.heap.size 5 1 (.slice A (qca b l n).length c) (qca b l n).length ((qca b l n).map B8)) (hc : (qca b l n).length ≤ c) (hw : Below w.heap.size w w') :
  qaz w (zb b l) (zj b l) (.returned (.tuple #[.slice A (qca b l n).length c, .int .i64 0])) w' := by
 have hh : l.head?.all b.behind = true := by
  rcases Nat.eq_zero_or_pos n with h0 | h0
  ·subst h0; rw [List.length_eq_zero_iff.1 hln]; rfl
  ·exact h.head h0
 have he : zb b l = 0 := by unfold zb; rw [if_neg (by omega), if_pos ⟨hb, hh⟩]
 have hout : zj b l = qca b l n := by unfold zj qca; rw [if_pos he, ← hln, List.take_length]
 rw [he, hout]
 exact ⟨⟨A, c, rfl, ho, hc⟩, hw⟩
end
structure ReadJn (b : Bs) (cpu : Nat) (m : Nat) (l : List Nat) (es : List Ev) (u : Nat) (bk : Bs) : Prop where
 fits : u ≤ l.length
 most : es.length ≤ u
 few : es.length ≤ m
 last : ∀ q, es.getLast? = some q → bk = q.at
 said : qv cpu m b none l = joinE es u (qv cpu (m - es.length) bk es.getLast? (l.drop u))
section
variable {b bk : Bs} {cpu m u L er : Nat} {l : List Nat} {es : List Ev} {e : Ev}
theorem ReadJn.start (b : Bs) (cpu m : Nat) (l : List Nat) : ReadJn b cpu m l [] 0 b := ⟨Nat.zero_le _, Nat.le_refl _, Nat.zero_le _, fun q h => by simp at h, (qi7 cpu m b none l).symm⟩
theorem ReadJn.bad (h : ReadJn b cpu m l es u bk) (hm : es.length < m) (hq : takeR bk cpu (l.drop u) = (e, L, er)) (he : er ≠ 0) : qv cpu m b none l = ([], 0, er) := by
 rw [h.said, show m - es.length = (m - es.length - 1) + 1 by omega]
 exact qi6 hq he es u
theorem ReadJn.same (h : ReadJn b cpu m l es u bk) (hm : es.length < m) (hq : takeR bk cpu (l.drop u) = (e, L, 0)) (he : es.getLast?.any (fun q => decide (e.seq = q.seq)) = true) : qv cpu m b none l = ([], 0, 71) := by
 rw [h.said, show m - es.length = (m - es.length - 1) + 1 by omega]
 exact qg6 hq he es u
theorem ReadJn.next (h : ReadJn b cpu m l es u bk) (hm : es.length < m) (hq : takeR bk cpu (l.drop u) = (e, L, 0)) (he : es.getLast?.any (fun q => decide (e.seq = q.seq)) = false) : ReadJn b cpu m l (es ++ [e]) (u + L) e.at := by
 have h1 := qfz bk cpu (l.drop u)
 rw [hq, List.length_drop] at h1
 simp only at h1
 have h2 := h1.2 trivial
 have h3 := h.fits
 have h4 := h.most
 refine ⟨by omega, by simp; omega, by simp; omega, fun q hq => ?_, ?_⟩
 ·simp at hq; rw [hq]
 ·rw [h.said, show m - es.length = (m - es.length - 1) + 1 by omega, qe2 hq he es u, List.drop_drop]
  simp [Nat.sub_sub]
theorem ReadJn.done (h : ReadJn b cpu m l es u bk) (hm : m ≤ es.length) : qv cpu m b none l = (es, u, 0) := by
 rw [h.said, show m - es.length = 0 by omega]
 simp [qv, joinE]
end
theorem qii {cpu : Nat} : ∀ (l : List Ev) (p : Option Ev) (b : Bs), Chain cpu p b l → ∀ e ∈ l, e.cpu = cpu
 | [], _, _, _, e, he => by cases he
 | x :: r, p, b, h, e, he => by
  obtain ⟨h1, h2, h3, h4⟩ := h
  rcases List.mem_cons.1 he with rfl | he
  ·exact h2
  ·exact qii r (some x) x.at h4 e he
theorem qgg {cpu : Nat} : ∀ (l : List Ev) (p : Option Ev) (b : Bs) (k : Nat), Chain cpu p b l → Chain cpu p b (l.take k)
 | [], _, _, k, _ => by rw [List.take_nil]; trivial
 | _ :: _, _, _, 0, _ => trivial
 | e :: r, _, _, k + 1, h => ⟨h.1, h.2.1, h.2.2.1, qgg r (some e) e.at k h.2.2.2⟩
theorem qjt {b : Bk} (h1 : b.kind = 1) (h2 : b.cpu ≤ 63) (h3 : 0 ≤ b.lost) (h4 : b.lost ≤ 281474976710656) (h5 : b.next = 0) (h6 : ¬ (b.lost = 0 ∧ b.evs.length = 0)) (hall : ∀ k, k < b.evs.length → (b.evs.getD k Ev.zero).cpu = b.cpu) :
  b.fits = decide ((rowR b.evs).2 = 0) := by
 have hh : b.qfn = true := by
  by_cases h : b.evs.length = 0
  ·rw [qhd h, decide_eq_true_eq]; omega
  ·rw [qga h, decide_eq_true_eq]; exact hall 0 (by omega)
 unfold Bk.fits
 rw [if_pos h1]
 unfold Bk.qcz
 rw [Bool.eq_iff_iff, decide_eq_true_eq, decide_eq_true_eq]
 exact ⟨fun h => h.1, fun h => ⟨h, by omega, h3, h4, h5, hh⟩⟩
def Bk.upto (b : Bk) (n : Nat) : Bk := ⟨b.kind, b.cpu, b.lost, b.next, b.evs.take n⟩
theorem qr0 {b : Bk} {n : Nat} (h : n ≤ b.evs.length) : (b.upto n).evs.length = n := by show (b.evs.take n).length = n; rw [List.length_take]; omega
theorem qpw {b : Bk} (hk : b.kind = 1) {n : Nat} (h1 : 0 < n) (h2 : n ≤ b.evs.length) : 12 + (b.upto n).body.length = b.sz n + (vbytes n).length := by
 have hb : (b.upto n).base = b.base := by
  unfold Bk.base Bk.upto
  cases hl : b.evs with
  | nil => simp
  | cons e r =>
   cases n with
   | zero => omega
   | succ j => rfl
 have hl2 := qr0 h2
 unfold Bk.body Bk.sz
 rw [if_neg (by show ¬ b.kind = 2; omega), hb]
 simp only [hl2]
 rw [if_neg (by omega)]
 show 12 + (vbytes b.cpu ++ vbytes b.lost.toNat ++ vbytes n ++ (vbytes b.base.seq.toNat ++ vbytes b.base.time.toNat ++ recs b.base (b.evs.take n))).length = _
 simp only [List.length_append]
 omega
theorem qpx : ∀ (f x y : Nat), x ≤ y → (grp f x).length ≤ (grp f y).length
 | 0, x, y, _ => by simp [grp]
 | f + 1, x, y, h => by
  rcases Nat.lt_or_ge x 128 with h1 | h1
  ·rw [qex f x h1]
   rcases Nat.lt_or_ge y 128 with h2 | h2
   ·rw [qex f y h2]; simp
   ·rw [qco f y h2]; simp
  ·rw [qco f x h1, qco f y (by omega)]
   have := qpx f (x / 128) (y / 128) (Nat.div_le_div_right h)
   simp only [List.length_cons]
   omega
theorem qhk {x y : Nat} (h : x ≤ y) : (vbytes x).length ≤ (vbytes y).length := by unfold vbytes; rw [List.length_map, List.length_map]; exact qpx 10 x y h
theorem qvc {b : Bk} {i j : Nat} (h : i ≤ j) : b.sz i ≤ b.sz j := by
 induction h with
 | refl => exact Nat.le_refl _
 | @step j _ ih =>
  refine Nat.le_trans ih ?_
  rcases Nat.lt_or_ge j b.evs.length with h1 | h1
  ·rw [qpv h1]; omega
  ·unfold Bk.sz
   rw [List.take_of_length_le h1, List.take_of_length_le (by omega : b.evs.length ≤ j + 1)]
   omega
theorem qr1 {b : Bk} {i j : Nat} (h : i ≤ j) (hj : b.big j = false) : b.big i = false := by
 unfold Bk.big at hj ⊢
 rw [decide_eq_false_iff_not] at hj ⊢
 have h1 := qvc (b := b) h
 have h2 := qhk h
 omega
theorem qpy {b : Bk} {n : Nat} (hn : n ≤ b.evs.length) (h1 : 0 < n → b.big n = false) (h2 : ∀ m, n < m → m ≤ b.evs.length → b.big m = true) : b.qdt = n := by
 have hno : ∀ i, i < n → b.big (i + 1) = false := fun i hi => qr1 (by omega) (h1 (by omega))
 rcases Nat.lt_or_ge n b.evs.length with h | h
 ·exact ql5 h hno (h2 _ (by omega) (by omega))
 ·have : n = b.evs.length := by omega
  subst this
  exact qgf hno
theorem qiq (l : List Ev) : ∀ v ∈ l.flatMap evL, v.oneCell' = true := by
 intro v hv
 obtain ⟨e, _, hv⟩ := List.mem_flatMap.1 hv
 exact zp e v hv
def qvj (w : World) (b : Bk) (r : Ending) (w' : World) : Prop :=
 (∃ A c, r = .returned (.agg (b.cells A c)) ∧ w'.ownsRow w.heap.size 45 11 (.slice A b.evs.length c) b.evs.length (b.evs.flatMap evL) ∧ b.evs.length ≤ c) ∧ Below w.heap.size w w'
structure It where
 e : Ev
 before : Int
structure It.Ok (x : It) : Prop where
 e : x.e.Ok
 before : I64 x.before
def It.cells (x : It) : Array Value := #[.int .i64 x.e.seq, .int .i64 x.e.time, .int .u8 (x.e.cpu : Int), .int .u8 (x.e.kind : Int), .int .i64 x.e.task, .int .i64 x.e.group, .int .i64 x.e.to, .int .i64 x.e.weight, .int .i64 x.e.ticks, .int .u64 (x.e.mask : Int), .int .i64 x.e.got, .int .i64 x.before]
def itL (x : It) : List Value := x.cells.toList
theorem qbv (x : It) : (itL x).length = 12 := rfl
def evsI (l : List It) : List Ev := l.map It.e
def befI (l : List It) : List Int := l.map It.before
def qa1 : Int → List Int → Bool
 | _, [] => true
 | r, n :: t => decide (0 ≤ n ∧ n ≤ r) && qa1 (r - n) t
def qb8 : Int := 281474976710656
def cpuOk (cpu : Nat) : List It → Bool
 | [] => true
 | x :: _ => decide (x.e.cpu = cpu)
def zt (cpu : Nat) (l : List It) (opn : Int) : Bool := decide ((rowR (evsI l)).2 = 0) && (qa1 qb8 (opn :: befI l) && cpuOk cpu l)
def sumI : List Int → Int
 | [] => 0
 | n :: t => n + sumI t
def ofB (cpu : Nat) (l : List It) (opn : Int) (n : Nat) : Bk := ⟨1, cpu, sumI (befI (l.take n)) + (if n = l.length then opn else 0), 0, evsI (l.take n)⟩
def qai (p : Nat → Bool) : Nat → Nat
 | 0 => 0
 | n + 1 => if p (n + 1) = true then n + 1 else qai p n
def cutN (cpu : Nat) (l : List It) (opn : Int) (limit : Nat) : Nat := qai (fun n => decide ((ofB cpu l opn n).err = 0)) (min l.length limit)
def cutGo (cpu : Nat) (opn : Int) (limit : Nat) : Nat → List It → List Bk
 | 0, _ => []
 | f + 1, l => if l.length = 0 then [] else ofB cpu l opn (cutN cpu l opn limit) :: cutGo cpu opn limit f (l.drop (cutN cpu l opn limit))
def cutS (cpu : Nat) (l : List It) (opn : Int) (limit : Int) : List Bk × Nat :=
 if 64 ≤ cpu ∨ limit < 1 ∨ 4096 < limit then ([], 2)
 else if zt cpu l opn = false then ([], 110)
 else if l.length = 0 then ((if opn = 0 then [] else [⟨1, cpu, opn, 0, []⟩]), 0)
 else (cutGo cpu opn limit.toNat l.length l, 0)
theorem qhl : ∀ {l : List Int} {r : Int}, qa1 r l = true → ∀ n ∈ l, 0 ≤ n ∧ n ≤ r
 | [], _, _, n, hn => by cases hn
 | x :: t, r, h, n, hn => by
  simp only [qa1, Bool.and_eq_true, decide_eq_true_eq] at h
  rcases List.mem_cons.1 hn with rfl | hn
  ·exact h.1
  ·have := qhl h.2 n hn
   omega
theorem qhm : ∀ {l : List Int} {r : Int}, 0 ≤ r → qa1 r l = true → 0 ≤ sumI l ∧ sumI l ≤ r
 | [], r, hr, _ => ⟨Int.le_refl _, hr⟩
 | x :: t, r, hr, h => by
  simp only [qa1, Bool.and_eq_true, decide_eq_true_eq] at h
  have := qhm (by omega) h.2
  simp only [sumI]
  omega
theorem qfq : ∀ (a b : List Int), sumI (a ++ b) = sumI a + sumI b
 | [], b => by simp [sumI]
 | x :: a, b => by simp only [List.cons_append, sumI, qfq a b]; omega
theorem qcl (p : Nat → Bool) : ∀ n, qai p n ≤ n
 | 0 => Nat.le_refl _
 | n + 1 => by
  rw [qai]
  split
  ·exact Nat.le_refl _
  ·exact Nat.le_succ_of_le (qcl p n)
theorem qgh (p : Nat → Bool) : ∀ n, 0 < qai p n → p (qai p n) = true
 | 0, h => by simp [qai] at h
 | n + 1, h => by
  rw [qai] at h ⊢
  split
  ·rename_i hp; exact hp
  ·rename_i hp
   rw [if_neg hp] at h
   exact qgh p n h
theorem qfa (p : Nat → Bool) (h1 : p 1 = true) : ∀ n, 0 < n → 0 < qai p n
 | 0, h => by omega
 | n + 1, _ => by
  rw [qai]
  split
  ·omega
  ·rename_i hp
   cases n with
   | zero => exact absurd h1 hp
   | succ m => exact qfa p h1 (m + 1) (by omega)
theorem qgi (p : Nat → Bool) : ∀ {n k : Nat}, k ≤ n → (∀ m, k < m → m ≤ n → p m = false) → qai p n = qai p k
 | 0, k, h, _ => by
  have : k = 0 := by omega
  subst this; rfl
 | n + 1, k, h, hno => by
  by_cases hk : k = n + 1
  ·subst hk; rfl
  ·rw [qai, if_neg (by rw [hno (n + 1) (by omega) (Nat.le_refl _)]; decide)]
   exact qgi p (by omega) (fun m h1 h2 => hno m h1 (by omega))
theorem qju {cpu : Nat} : ∀ (l : List Ev) (p : Option Ev) (b : Bs) (k : Nat), Chain cpu p b l → ∃ b', Chain cpu none b' (l.drop k)
 | [], _, b, k, _ => ⟨b, by rw [List.drop_nil]; trivial⟩
 | e :: r, p, b, 0, h => ⟨b, h.1, h.2.1, (fun q hq => by cases hq), h.2.2.2⟩
 | e :: r, _, _, k + 1, h => qju r (some e) e.at k h.2.2.2
theorem qep (l : List It) (n : Nat) : evsI (l.take n) = (evsI l).take n := by unfold evsI; rw [List.map_take]
theorem qpz (l : List It) (n : Nat) : evsI (l.drop n) = (evsI l).drop n := by unfold evsI; rw [List.map_drop]
theorem qeq (l : List It) : (evsI l).length = l.length := by unfold evsI; rw [List.length_map]
theorem qfb (l : List It) (n : Nat) : sumI (befI l) = sumI (befI (l.take n)) + sumI (befI (l.drop n)) := by
 unfold befI
 rw [List.map_take, List.map_drop, ← qfq, List.take_append_drop]
theorem qd5 : ∀ {l : List Int}, (∀ n ∈ l, 0 ≤ n) → 0 ≤ sumI l
 | [], _ => Int.le_refl _
 | x :: t, h => by
  have h1 := h x List.mem_cons_self
  have h2 := qd5 (l := t) (fun n hn => h n (List.mem_cons_of_mem _ hn))
  simp only [sumI]
  omega
structure GoodI (cpu : Nat) (l : List It) (opn : Int) : Prop where
 c64 : cpu < 64
 chain : ∃ b, Chain cpu none b (evsI l)
 ok : ∀ x ∈ l, x.Ok
 o0 : 0 ≤ opn
 bef : ∀ x ∈ l, 0 ≤ x.before
 sum : opn + sumI (befI l) ≤ 281474976710656
theorem qar {l : List It} (h : ∀ x ∈ l, 0 ≤ x.before) : 0 ≤ sumI (befI l) := qd5 fun n hn => by
 unfold befI at hn
 obtain ⟨x, hx, rfl⟩ := List.mem_map.1 hn
 exact h x hx
theorem GoodI.drop {cpu : Nat} {l : List It} {opn : Int} (h : GoodI cpu l opn) (k : Nat) : GoodI cpu (l.drop k) opn := by
 obtain ⟨b, hb⟩ := h.chain
 have h1 := qfb l k
 have h2 := qar (l := l.take k) (fun x hx => h.bef x (List.mem_of_mem_take hx))
 have h3 := h.sum
 exact ⟨h.c64, by rw [qpz]; exact qju _ _ _ k hb, fun x hx => h.ok x (List.mem_of_mem_drop hx), h.o0, fun x hx => h.bef x (List.mem_of_mem_drop hx), by omega⟩
theorem GoodI.of {cpu : Nat} {l : List It} {opn : Int} (hc : cpu < 64) (hok : ∀ x ∈ l, x.Ok) (h : zt cpu l opn = true) : GoodI cpu l opn := by
 unfold zt at h
 simp only [Bool.and_eq_true, decide_eq_true_eq] at h
 obtain ⟨h1, h2, h3⟩ := h
 have hr := h2
 simp only [qa1, Bool.and_eq_true, decide_eq_true_eq] at hr
 have hs := qhm (r := qb8 - opn) (by omega) hr.2
 have hm : qb8 = 281474976710656 := rfl
 refine ⟨hc, ?_, hok, hr.1.1, ?_, by omega⟩
 ·cases l with
  | nil => exact ⟨⟨0, 0⟩, trivial⟩
  | cons x r =>
   have hev : ∀ e ∈ evsI (x :: r), e.Ok := fun e he => by
    unfold evsI at he
    obtain ⟨y, hy, rfl⟩ := List.mem_map.1 he
    exact (hok y hy).e
   have hx : x.e.check = 0 := qlx h1 rfl
   have hcp : x.e.cpu = cpu := by simpa [cpuOk] using h3
   refine ⟨x.e.at, qdb (evsI (x :: r)) none x.e.at 0 hev (qek hx) ?_ (fun q hq => by cases hq) h1⟩
   intro y hy
   have : y = x.e := by simpa [evsI] using hy.symm
   subst this
   exact ⟨qf8 _, hcp⟩
 ·intro x hx
  exact (qhl hr.2 x.before (List.mem_map_of_mem hx)).1
theorem qb9 {cpu : Nat} {l : List It} {opn : Int} {n : Nat} (hn : n ≤ l.length) : (ofB cpu l opn n).evs.length = n := by
 show (evsI (l.take n)).length = n
 rw [qeq, List.length_take]
 omega
theorem qfr {cpu : Nat} {l : List It} {opn : Int} (h : GoodI cpu l opn) (n : Nat) : 0 ≤ (ofB cpu l opn n).lost ∧ (ofB cpu l opn n).lost ≤ 281474976710656 := by
 have h1 := qfb l n
 have h2 := qar (l := l.take n) (fun x hx => h.bef x (List.mem_of_mem_take hx))
 have h3 := qar (l := l.drop n) (fun x hx => h.bef x (List.mem_of_mem_drop hx))
 have h4 := h.sum
 have h5 := h.o0
 show 0 ≤ sumI (befI (l.take n)) + (if n = l.length then opn else 0) ∧ sumI (befI (l.take n)) + (if n = l.length then opn else 0) ≤ _
 split <;> omega
theorem ql6 {cpu : Nat} {l : List It} {opn : Int} (h : GoodI cpu l opn) (n : Nat) : (ofB cpu l opn n).Ok := by
 have := qfr h n
 refine ⟨by show 1 < 256; decide, by have := h.c64; show cpu < 256; omega, ⟨by omega, by omega⟩, by show I64 0; exact ⟨by decide, by decide⟩, fun e he => ?_⟩
 have he : e ∈ evsI (l.take n) := he
 unfold evsI at he
 obtain ⟨y, hy, rfl⟩ := List.mem_map.1 he
 exact (h.ok y (List.mem_of_mem_take hy)).e
theorem qd6 {cpu : Nat} {b : Bs} {l : List Ev} (h : Chain cpu none b l) : (rowR l).2 = 0 := by
 cases l with
 | nil => rfl
 | cons e r =>
  have hr : b.right = true := h.1.right
  rw [(qjg hr h).1]
theorem ql7 {cpu : Nat} {l : List It} {opn : Int} (h : GoodI cpu l opn) {n : Nat} (h1 : 0 < n) (h2 : n ≤ l.length) : (ofB cpu l opn n).fits = true := by
 obtain ⟨b, hb⟩ := h.chain
 have hl := qfr h n
 have hlen := qb9 (cpu := cpu) (opn := opn) h2
 have hc : Chain cpu none b (evsI (l.take n)) := by rw [qep]; exact qgg _ _ _ n hb
 rw [qjt (b := ofB cpu l opn n) rfl (by show cpu ≤ 63; have := h.c64; omega) hl.1 hl.2 rfl (by rw [hlen]; omega), decide_eq_true_eq]
 ·exact qd6 hc
 ·intro k hk
  exact qii _ _ _ hc _ (qbo Ev.zero hk)
theorem qr2 {cpu : Nat} {l : List It} {opn : Int} {n : Nat} (h1 : 0 < n) (h2 : n ≤ l.length) : 12 + (ofB cpu l opn n).body.length = Bk.sz ⟨1, cpu, (ofB cpu l opn n).lost, 0, evsI l⟩ n + (vbytes n).length := by
 have h := qpw (b := ⟨1, cpu, (ofB cpu l opn n).lost, 0, evsI l⟩) rfl h1 (by show n ≤ (evsI l).length; rw [qeq]; exact h2)
 have e : Bk.upto ⟨1, cpu, (ofB cpu l opn n).lost, 0, evsI l⟩ n = ofB cpu l opn n := by
  unfold Bk.upto
  show (⟨1, cpu, (ofB cpu l opn n).lost, 0, (evsI l).take n⟩ : Bk) = ⟨1, cpu, _, 0, evsI (l.take n)⟩
  rw [qep]
  rfl
 rwa [e] at h
theorem qtw {cpu : Nat} {lo lo' : Int} {es : List Ev} {n : Nat} (h : lo ≤ lo') : Bk.sz ⟨1, cpu, lo, 0, es⟩ n ≤ Bk.sz ⟨1, cpu, lo', 0, es⟩ n := by
 have h1 := qhk (x := lo.toNat) (y := lo'.toNat) (by omega)
 have hb : Bk.base ⟨1, cpu, lo, 0, es⟩ = Bk.base ⟨1, cpu, lo', 0, es⟩ := rfl
 unfold Bk.sz
 simp only [hb]
 generalize (vbytes cpu).length = a1
 generalize Bk.base ⟨1, cpu, lo', 0, es⟩ = q
 generalize (vbytes q.seq.toNat).length = a2
 generalize (vbytes q.time.toNat).length = a3
 generalize (recs q (List.take n es)).length = a4
 omega
theorem qtx {cpu : Nat} {lo : Int} {es : List Ev} {m n : Nat} (h0 : 0 < n) (h : n ≤ m) : Bk.sz ⟨1, cpu, lo, 0, es.take m⟩ n = Bk.sz ⟨1, cpu, lo, 0, es⟩ n := by
 have hb : Bk.base ⟨1, cpu, lo, 0, es.take m⟩ = Bk.base ⟨1, cpu, lo, 0, es⟩ := by
  unfold Bk.base
  cases es with
  | nil => simp
  | cons e r =>
   cases m with
   | zero => omega
   | succ j => rfl
 unfold Bk.sz
 rw [hb]
 show 12 + _ + _ + _ + _ + (recs _ ((es.take m).take n)).length = 12 + _ + _ + _ + _ + (recs _ (es.take n)).length
 rw [List.take_take, Nat.min_eq_left h]
theorem qp0 {cpu : Nat} {l : List It} {opn : Int} (h : GoodI cpu l opn) {n : Nat} (h1 : 0 < n) (h2 : n ≤ l.length) : (ofB cpu l opn n).err = 0 ↔ Bk.sz ⟨1, cpu, (ofB cpu l opn n).lost, 0, evsI l⟩ n + (vbytes n).length ≤ 4096 := by
 have hs := qr2 (cpu := cpu) (opn := opn) h1 h2
 unfold Bk.err
 rw [if_neg (by rw [ql7 h h1 h2]; decide), hs]
 split <;> omega
theorem qb6 (p : Nat → Bool) : ∀ n m, qai p n < m → m ≤ n → p m = false
 | 0, m, h1, h2 => by omega
 | n + 1, m, h1, h2 => by
  rw [qai] at h1
  split at h1
  ·omega
  ·rename_i hp
   by_cases hm : m = n + 1
   ·subst hm; simpa using hp
   ·exact qb6 p n m h1 (by omega)
def mostB (cpu : Nat) (l : List It) (m : Nat) : Bk := ⟨1, cpu, 0, 0, evsI (l.take m)⟩
theorem qhn {cpu : Nat} {l : List It} {opn : Int} (h : GoodI cpu l opn) {m : Nat} (h0 : 0 < m) (hm : m ≤ l.length) : (mostB cpu l m).fits = true ∧ (mostB cpu l m).Ok ∧ (mostB cpu l m).qdt ≤ m ∧ 0 < (mostB cpu l m).qdt ∧ ∀ n, (mostB cpu l m).qdt < n → n ≤ m → (ofB cpu l opn n).err ≠ 0 := by
 obtain ⟨b, hb⟩ := h.chain
 have hc : Chain cpu none b (evsI (l.take m)) := by rw [qep]; exact qgg _ _ _ m hb
 have hlen : (mostB cpu l m).evs.length = m := by show (evsI (l.take m)).length = m; rw [qeq, List.length_take]; omega
 have hbig : ∀ n, 0 < n → n ≤ m → ((mostB cpu l m).big n = true ↔ 4096 < Bk.sz ⟨1, cpu, 0, 0, evsI l⟩ n + (vbytes n).length) := fun n h1 h2 => by
  unfold Bk.big
  rw [decide_eq_true_eq]
  unfold mostB
  rw [qep, qtx h1 h2]
 obtain ⟨k, hk⟩ : ∃ k, k = qai (fun i => !(mostB cpu l m).big i) m := ⟨_, rfl⟩
 have hkm : k ≤ m := by rw [hk]; exact qcl _ _
 have hf : (mostB cpu l m).qdt = k := by
  refine qpy (by rw [hlen]; exact hkm) (fun h1 => ?_) (fun n h1 h2 => ?_)
  ·have := qgh (fun i => !(mostB cpu l m).big i) m (by rw [← hk]; exact h1)
   rw [← hk] at this
   simpa using this
  ·have := qb6 (fun i => !(mostB cpu l m).big i) m n (by rw [← hk]; exact h1) (by rw [hlen] at h2; exact h2)
   simpa using this
 have hpos : 0 < k := by
  rw [hk]
  refine qfa _ ?_ m h0
  have h1 := (hbig 1 (by omega) (by omega))
  have h2 := sz_le ⟨1, cpu, 0, 0, evsI l⟩ 1
  have h3 := qr 1
  cases hb1 : (mostB cpu l m).big 1 with
  | true => have := h1.1 hb1; omega
  | false => rfl
 refine ⟨?_, ?_, by rw [hf]; exact hkm, by rw [hf]; exact hpos, ?_⟩
 ·rw [qjt (b := mostB cpu l m) rfl (by show cpu ≤ 63; have := h.c64; omega) (Int.le_refl _) (by show (0 : Int) ≤ _; omega) rfl (by rw [hlen]; omega), decide_eq_true_eq]
  ·exact qd6 hc
  ·intro i hi
   exact qii _ _ _ hc _ (qbo Ev.zero hi)
 ·refine ⟨by show 1 < 256; decide, by have := h.c64; show cpu < 256; omega, by show I64 0; exact ⟨by decide, by decide⟩, by show I64 0; exact ⟨by decide, by decide⟩, fun e he => ?_⟩
  have he : e ∈ evsI (l.take m) := he
  unfold evsI at he
  obtain ⟨y, hy, rfl⟩ := List.mem_map.1 he
  exact (h.ok y (List.mem_of_mem_take hy)).e
 ·intro n h1 h2 he
  rw [hf, hk] at h1
  have h3 := qb6 (fun i => !(mostB cpu l m).big i) m n h1 h2
  have h4 : (mostB cpu l m).big n = true := by simpa using h3
  have hn : 0 < n := by omega
  have h5 := (hbig n hn h2).1 h4
  have h6 := (qp0 h hn (by omega)).1 he
  have h7 := qtw (cpu := cpu) (es := evsI l) (n := n) (qfr h n).1
  omega
theorem qp1 {cpu : Nat} {l : List It} {opn : Int} (h : GoodI cpu l opn) {limit : Nat} (hl : 0 < limit) (h0 : 0 < l.length) :
  cutN cpu l opn limit = qai (fun n => decide ((ofB cpu l opn n).err = 0)) (mostB cpu l (min l.length limit)).qdt := by
 have hm := qhn h (m := min l.length limit) (by omega) (by omega)
 unfold cutN
 refine qgi _ hm.2.2.1 (fun n h1 h2 => ?_)
 rw [decide_eq_false_iff_not]
 exact hm.2.2.2.2 n h1 h2
theorem qty {cpu : Nat} {l : List It} {opn : Int} (h : GoodI cpu l opn) (h0 : 0 < l.length) : (ofB cpu l opn 1).err = 0 := by
 rw [qp0 h (by omega) (by omega)]
 have h2 := sz_le ⟨1, cpu, (ofB cpu l opn 1).lost, 0, evsI l⟩ 1
 have h3 := qr 1
 omega
theorem qij {cpu : Nat} {l : List It} {opn : Int} (h : GoodI cpu l opn) {limit : Nat} (hl : 0 < limit) (h0 : 0 < l.length) : 0 < cutN cpu l opn limit ∧ cutN cpu l opn limit ≤ l.length ∧ (ofB cpu l opn (cutN cpu l opn limit)).err = 0 := by
 have h1 := qfa (fun n => decide ((ofB cpu l opn n).err = 0)) (by rw [decide_eq_true (qty h h0)]) (min l.length limit) (by omega)
 have h2 := qcl (fun n => decide ((ofB cpu l opn n).err = 0)) (min l.length limit)
 have h3 := qgh (fun n => decide ((ofB cpu l opn n).err = 0)) (min l.length limit) h1
 unfold cutN
 exact ⟨h1, by omega, of_decide_eq_true h3⟩
theorem qcm {cpu limit f : Nat} {opn : Int} {l : List It} (h : 0 < l.length) (hf : 0 < f) : cutGo cpu opn limit f l = ofB cpu l opn (cutN cpu l opn limit) :: cutGo cpu opn limit (f - 1) (l.drop (cutN cpu l opn limit)) := by
 cases f with
 | zero => omega
 | succ f => rw [cutGo, if_neg (by omega)]; rfl
theorem qdd {cpu limit f : Nat} {opn : Int} {l : List It} (h : l.length = 0) : cutGo cpu opn limit f l = [] := by
 cases f with
 | zero => rfl
 | succ f => rw [cutGo, if_pos h]
section
variable {cpu : Nat} {l : List It} {opn limit : Int}
theorem qik (h : 64 ≤ cpu ∨ limit < 1 ∨ 4096 < limit) : cutS cpu l opn limit = ([], 2) := by unfold cutS; rw [if_pos h]
theorem qnc (h : ¬(64 ≤ cpu ∨ limit < 1 ∨ 4096 < limit)) (h2 : zt cpu l opn = false) : cutS cpu l opn limit = ([], 110) := by unfold cutS; rw [if_neg h, if_pos h2]
theorem qjv (h : ¬(64 ≤ cpu ∨ limit < 1 ∨ 4096 < limit)) (h2 : zt cpu l opn = true) (h3 : l.length = 0) (h4 : opn = 0) : cutS cpu l opn limit = ([], 0) := by unfold cutS; rw [if_neg h, if_neg (by rw [h2]; decide), if_pos h3, if_pos h4]
theorem qjw (h : ¬(64 ≤ cpu ∨ limit < 1 ∨ 4096 < limit)) (h2 : zt cpu l opn = true) (h3 : l.length = 0) (h4 : opn ≠ 0) : cutS cpu l opn limit = ([⟨1, cpu, opn, 0, []⟩], 0) := by unfold cutS; rw [if_neg h, if_neg (by rw [h2]; decide), if_pos h3, if_neg h4]
theorem qjx {lim : Nat} (h : ¬(64 ≤ cpu ∨ (lim : Int) < 1 ∨ 4096 < (lim : Int))) (h2 : zt cpu l opn = true) (h3 : l.length ≠ 0) : cutS cpu l opn (lim : Int) = (cutGo cpu opn lim l.length l, 0) := by unfold cutS; rw [if_neg h, if_neg (by rw [h2]; decide), if_neg h3, Int.toNat_natCast]
end
theorem qk6 {p : Nat → Bool} {m : Nat} (h : p m = false) (h0 : 0 < m) : qai p m = qai p (m - 1) := by
 cases m with
 | zero => omega
 | succ m => rw [qai, if_neg (by rw [h]; decide)]; rfl
theorem qk7 {p : Nat → Bool} {m : Nat} (h : p m = true) : qai p m = m := by
 cases m with
 | zero => rfl
 | succ m => rw [qai, if_pos h]
def It.zero : It := ⟨Ev.zero, 0⟩
theorem si_it : SI Tryd.prog 47 12 := ⟨by kernel_rfl, by kernel_rfl⟩
theorem ei_it : EI Tryd.prog 22 47 (.agg It.zero.cells) 12 88 := ⟨by kernel_rfl, by kernel_rfl, rfl, by omega⟩
theorem ql8 : EI Tryd.prog 35 41 (.agg #[.int .u8 0, .int .u8 0, .int .i64 0, .int .i64 0, .slice none 0 0]) 5 48 := ⟨by kernel_rfl, by kernel_rfl, rfl, by omega⟩
theorem ql9 (x : It) : ∀ v ∈ x.cells.toList, v.oneCell' = true := by intro v hv; simp [It.cells] at hv; rcases hv with rfl | rfl | rfl | rfl | rfl | rfl | rfl | rfl | rfl | rfl | rfl | rfl <;> rfl
section
variable {P : Program} {S : World → Prop} {σ : List (Nat × Value)} {o : Oper}
theorem Yl.qvr {t e : TypeId} {z : Value} {size bytes : Nat} (ei : EI P t e z size bytes) {x lo hi mx : Operand} {A : Option Addr} {m c i j q : Nat} {k k' k2 : IntKind} (hop : o.op = .slice t x (some lo) (some hi) (some mx)) (hx : look σ x = some (.slice A m c)) (hl : look σ lo = some (.int k (i : Int))) (hh : look σ hi = some (.int k' (j : Int))) (hm : look σ mx = some (.int k2 (q : Int))) (hij : i ≤ j) (hj : j ≤ q) (hq : q ≤ c) :
  Yl P S σ o (.slice (if q = i then A else A.map (·.add (i * size))) (j - i) (q - i)) := fun a n D HF w hS => by
 obtain ⟨inf, hinf, _, hs, _⟩ := info_parts ei.hi
 have e1 : (Instr.sliceAt t (.slice A m c) (some (.int k (i : Int))) (some (.int k' (j : Int))) (some (.int k2 (q : Int)))).run P w = .ok (.slice (if q = i then A else A.map (·.add (i * size))) (j - i) (q - i)) w := by
  subst hs
  simp [Instr.sliceAt, run_underlying ei.ht, Instr.slice, Instr.sliceBounds, Instr.sliceBound, asIntOf, hij, hj, hq, sizeOf, typeInfo, hinf]
 unfold execOp
 simp only [hop, HF.eval hx, HF.eval hl, HF.eval hh, HF.eval hm, Option.map_some, Sem.run_bind, e1, Result.andThen_ok]
 rfl
end
theorem qjy {α : Type} (f : α → List Value) (sz : Nat) (hf : ∀ x, (f x).length = sz) : ∀ (l : List α) (k : Nat), (l.flatMap f).take (k * sz) = (l.take k).flatMap f
 | [], _ => by simp
 | _ :: _, 0 => by simp
 | x :: l, k + 1 => by
  rw [List.flatMap_cons, List.take_succ_cons, List.flatMap_cons, List.take_append, List.take_of_length_le (by rw [hf, Nat.succ_mul]; omega), hf, ← qjy f sz hf l k]
  congr 2
  rw [Nat.succ_mul]; omega
theorem qjz {α : Type} (f : α → List Value) (sz : Nat) (hf : ∀ x, (f x).length = sz) : ∀ (l : List α) (k : Nat), (l.flatMap f).drop (k * sz) = (l.drop k).flatMap f
 | [], _ => by simp
 | _ :: _, 0 => by simp
 | x :: l, k + 1 => by
  rw [List.flatMap_cons, List.drop_succ_cons, List.drop_append, List.drop_of_length_le (by rw [hf, Nat.succ_mul]; omega), hf, ← qjz f sz hf l k, List.nil_append]
  congr 1
  rw [Nat.succ_mul]; omega
theorem Rd.qqz {α : Type} {f : α → List Value} {sz : Nat} (hf : ∀ x, (f x).length = sz) {w : World} {B k : Nat} {A : Option Addr} {l : List α} (h : Rd w B sz A l.length (l.flatMap f)) (hk : k ≤ l.length) : Rd w B sz A k ((l.take k).flatMap f) := by
 have h1 := h.upto hk
 rwa [qjy f sz hf] at h1
theorem Rd.qvw {α : Type} {f : α → List Value} {sz : Nat} (hf : ∀ x, (f x).length = sz) {w : World} {B k c : Nat} {A : Option Addr} {l : List α} (h : Rd w B sz A l.length (l.flatMap f)) (hk : k ≤ l.length) (hc : l.length ≤ c) : Rd w B sz (if c = k then A else A.map (·.add (k * sz))) (l.drop k).length ((l.drop k).flatMap f) := by
 have h1 := h.from hk hc
 rwa [qjz f sz hf, ← List.length_drop] at h1
theorem Rd.qvx {α : Type} {f : α → List Value} {size : Nat} (hf : ∀ x, (f x).length = size) {w : World} {B n g o : Nat} {l : List α} (h : Rd w B size (some ⟨g, o, none⟩) n (l.flatMap f)) {k j m : Nat} {x : α} {ys : List Value} (hk : l[k]? = some x) (hy : ((f x).drop j).take m = ys) : w.rangeAt g (o + k * size + j) ys := fun i u hu => by
 rw [← hy, List.getElem?_take] at hu
 split at hu
 ·rw [List.getElem?_drop] at hu
  have h1 := h.qdr hf hk (j + i) u hu
  rwa [← Nat.add_assoc] at h1
 ·cases hu
theorem qdp {α : Type} {l : List α} {k : Nat} (d : α) (h : k < l.length) : l.take (k + 1) = l.take k ++ [l.getD k d] := by
 rw [List.take_succ_eq_append_getElem h, List.getD_eq_getElem?_getD, List.getElem?_eq_getElem h]
 rfl
theorem qnd {l : List It} {k : Nat} (h : k < l.length) : (evsI (l.take (k + 1))).flatMap evL = (evsI (l.take k)).flatMap evL ++ evL (l.getD k It.zero).e := by
 rw [qdp It.zero h]
 unfold evsI
 rw [List.map_append, List.flatMap_append]
 simp
theorem qne {l : List It} {k : Nat} (h : k < l.length) : (befI (l.take (k + 1))).map I64i = (befI (l.take k)).map I64i ++ [I64i (l.getD k It.zero).before] := by
 rw [qdp It.zero h]
 unfold befI
 rw [List.map_append, List.map_append]
 rfl
theorem qil (l : List It) : (befI l).length = l.length := by unfold befI; rw [List.length_map]
theorem qtz {l : List It} (h : ∀ x ∈ l, x.Ok) : ∀ e ∈ evsI l, e.Ok := fun e he => by
 unfold evsI at he
 obtain ⟨x, hx, rfl⟩ := List.mem_map.1 he
 exact (h x hx).e
theorem qr3 (l : List Int) : ∀ v ∈ l.map I64i, v.oneCell' = true := by
 intro v hv
 obtain ⟨_, _, rfl⟩ := List.mem_map.1 hv
 rfl
theorem qdx {α : Type} {l : List α} {k : Nat} (d : α) (h : k < l.length) : l.drop k = l.getD k d :: l.drop (k + 1) := by
 rw [List.drop_eq_getElem_cons h, List.getD_eq_getElem?_getD, List.getElem?_eq_getElem h]
 rfl
theorem qp2 {xs : List Int} {k : Nat} {r : Int} (h : k < xs.length) : qa1 r (xs.drop k) = (decide (0 ≤ xs.getD k 0 ∧ xs.getD k 0 ≤ r) && qa1 (r - xs.getD k 0) (xs.drop (k + 1))) := by
 rw [qdx 0 h, qa1]
theorem qnf {cpu : Nat} {l : List It} (h : 0 < l.length) : cpuOk cpu l = decide ((l.getD 0 It.zero).e.cpu = cpu) := by
 cases l with
 | nil => cases h
 | cons x r => rfl
theorem qp3 {cpu : Nat} {l : List It} (h : l.length = 0) : cpuOk cpu l = true := by
 cases l with
 | nil => rfl
 | cons x r => cases h
theorem qk8 {cpu : Nat} {l : List It} {opn : Int} (h : (rowR (evsI l)).2 ≠ 0) : zt cpu l opn = false := by
 unfold zt
 rw [decide_eq_false h, Bool.false_and]
theorem qfl {cpu : Nat} {l : List It} {opn : Int} (h : qa1 qb8 (opn :: befI l) = false) : zt cpu l opn = false := by
 unfold zt
 rw [h, Bool.false_and, Bool.and_false]
theorem qho {cpu : Nat} {l : List It} {opn : Int} (h1 : (rowR (evsI l)).2 = 0) (h2 : qa1 qb8 (opn :: befI l) = true) : zt cpu l opn = cpuOk cpu l := by
 unfold zt
 rw [h2, decide_eq_true h1, Bool.true_and, Bool.true_and]
theorem qgj {l : List It} {k j : Nat} (hj : j < k) (hk : k ≤ l.length) : sumI (befI (l.take (j + 1))) = sumI (befI (l.take j)) + (befI (l.take k)).getD j 0 := by
 rw [qdp It.zero (by omega : j < l.length)]
 unfold befI
 rw [List.map_append, qfq]
 have h1 : (List.map It.before (l.take k)).getD j 0 = (l.getD j It.zero).before := by
  rw [List.getD_eq_getElem?_getD, List.getElem?_map, List.getElem?_take, if_pos hj, List.getD_eq_getElem?_getD, List.getElem?_eq_getElem (by omega)]
  rfl
 rw [h1]
 simp [sumI]
theorem qp4 {l : List It} {j : Nat} (hj : j < l.length) : sumI (befI (l.take (j + 1))) = sumI (befI (l.take j)) + (l.getD j It.zero).before := by
 rw [qdp It.zero hj]
 unfold befI
 rw [List.map_append, qfq]
 simp [sumI]
theorem GoodI.part {cpu : Nat} {l : List It} {opn : Int} (h : GoodI cpu l opn) (j : Nat) : 0 ≤ sumI (befI (l.take j)) ∧ sumI (befI (l.take j)) + opn ≤ 281474976710656 := by
 have h1 := qfb l j
 have h2 := qar (l := l.take j) (fun x hx => h.bef x (List.mem_of_mem_take hx))
 have h3 := qar (l := l.drop j) (fun x hx => h.bef x (List.mem_of_mem_drop hx))
 have h4 := h.sum
 omega
theorem qj0 {cpu : Nat} {l : List It} {opn : Int} {k : Nat} (hk : k ≤ l.length) {lo : Int} (hlo : lo = (ofB cpu l opn k).lost) (A : Option Addr) (c : Nat) : #[.int .u8 1, .int .u8 (cpu : Int), .int .i64 lo, .int .i64 0, .slice A k c] = (ofB cpu l opn k).cells A c := by
 subst hlo
 unfold Bk.cells
 rw [qb9 hk]
 rfl
theorem qt0 {cpu : Nat} {l : List It} {opn : Int} {k : Nat} (h : k = l.length) : (ofB cpu l opn k).lost = sumI (befI (l.take k)) + opn := by
 show _ + (if k = l.length then opn else 0) = _
 rw [if_pos h]
theorem qp5 {cpu : Nat} {l : List It} {opn : Int} {k : Nat} (h : k ≠ l.length) : (ofB cpu l opn k).lost = sumI (befI (l.take k)) := by
 show _ + (if k = l.length then opn else 0) = _
 rw [if_neg h, Int.add_zero]
end Go.Proofs.YtfeheccoijnbaaaDoor
namespace Go.Proofs.YtfeheccoijnbaaaDoor
open Go.RowKit Go.ChangeShapes Go.WideShapes Go.ChangeAt
section
variable {H : Type} {enc : TypeId × Value → H} {P : Program} {W : World} {sp : Nat → Bool} {held : Bool}
theorem flat_get {sz : Nat} : ∀ (css : List (List Value)), (∀ l ∈ css, l.length = sz) → ∀ p u, (css.flatMap id)[p]? = some u → ∃ i j, ∃ hi : i < css.length, j < sz ∧ p = i * sz + j ∧ css[i][j]? = some u := by
 intro css
 induction css with
 | nil => intro _ p u h; simp at h
 | cons l r ih =>
  intro h p u hu
  have hll := h l (by simp)
  rw [List.flatMap_cons] at hu
  by_cases hp : p < sz
  ·rw [List.getElem?_append_left (by simp only [id]; omega)] at hu
   exact ⟨0, p, by simp, hp, by omega, hu⟩
  ·rw [List.getElem?_append_right (by simp only [id]; omega)] at hu
   simp only [id] at hu
   rw [hll] at hu
   obtain ⟨i, j, hi, hj, hpj, hu'⟩ := ih (fun y hy => h y (by simp [hy])) _ u hu
   exact ⟨i + 1, j, by simp; omega, hj, by rw [Nat.succ_mul]; omega, by simpa using hu'⟩
theorem qp6 {sz : Nat} : ∀ (css : List (List Value)), (∀ l ∈ css, l.length = sz) → (css.flatMap id).length = css.length * sz := by
 intro css
 induction css with
 | nil => simp
 | cons l r ih => intro h; rw [List.flatMap_cons, List.length_append, ih (fun y hy => h y (by simp [hy])), List.length_cons, Nat.succ_mul]; have := h l (by simp); simp only [id]; omega
theorem qhp {α : Type} (f : α → List Value) (Ok : α → Prop) {t e : TypeId} {sz : Nat} (ht : P.underlying t = some (.slice e)) (hsz : P.cellsOf e = sz) (h0 : 0 < sz) (hf : ∀ x, (f x).length = sz)
  (hE : ∀ m l y, DataW.trod enc P W 0 sp held m e l = some y → ∃ x, f x = l ∧ Ok x) {fuel : Nat} {cs : List Value} {x : DataW H × List MemPlace} (h : DataW.trod enc P W 0 sp held fuel t cs = some x) :
  ∃ (A : Option Addr) (c : Nat) (l : List α), cs = [.slice A l.length c] ∧ l.length ≤ c ∧ c ≤ maxLen ∧ (∀ x ∈ l, Ok x) ∧ Rd W W.heap.size sz A l.length (l.flatMap f) := by
 rcases DataW.trod_slice ht h with ⟨hc, _⟩ | ⟨a, len, cap, elems, rest, m, _, hc, _, _, hl, hm, hlen, hel, _⟩
 ·exact ⟨none, 0, [], hc, Nat.le_refl _, by unfold maxLen; omega, by simp, Rd.nil⟩
 ·have hall : ∀ i, i < len → ∃ x : α, W.cells? 0 (a.add (i * sz)) sz = some (f x) ∧ Ok x := by
   intro i hi
   have h1 := hel i hi
   rw [hsz, List.getElem?_eq_getElem (by omega : i < elems.length)] at h1
   obtain ⟨l, h2, h3⟩ := Option.bind_eq_some_iff.1 h1
   obtain ⟨x, rfl, hx⟩ := hE _ _ _ h3
   exact ⟨x, h2, hx⟩
  have key : ∀ k, k ≤ len → ∃ xs : List α, xs.length = k ∧ ∀ i (hi : i < xs.length), W.cells? 0 (a.add (i * sz)) sz = some (f xs[i]) ∧ Ok xs[i] := by
   intro k
   induction k with
   | zero => intro _; exact ⟨[], rfl, fun i hi => by simp at hi⟩
   | succ k ih =>
    intro hk
    obtain ⟨xs, h1, h2⟩ := ih (by omega)
    obtain ⟨x, h3, h4⟩ := hall k (by omega)
    refine ⟨xs ++ [x], by simp [h1], fun i hi => ?_⟩
    by_cases hik : i < xs.length
    ·rw [List.getElem_append_left hik]; exact h2 i hik
    ·obtain rfl : i = xs.length := by simp at hi; omega
     rw [List.getElem_append_right (Nat.le_refl _)]
     simp only [Nat.sub_self, List.getElem_cons_zero, h1]
     exact ⟨h3, h4⟩
  obtain ⟨xs, h1, h2⟩ := key len (Nat.le_refl _)
  have hfm : xs.flatMap f = (xs.map f).flatMap id := by rw [List.flatMap_map]; rfl
  have hll : ∀ l ∈ xs.map f, l.length = sz := fun l hl' => by obtain ⟨x, _, rfl⟩ := List.mem_map.1 hl'; exact hf x
  have hat : ∀ i (hi : i < xs.length) j, j < sz → W.cell? (a.add (i * sz + j)) = (f xs[i])[j]? := by
   intro i hi j hj
   have := (World.cells?_some (h2 i hi).1).2.2 j hj
   rwa [qis] at this
  refine ⟨some a, cap, xs, by rw [hc, h1], by omega, hm, fun x hx => by obtain ⟨i, hi, rfl⟩ := List.getElem_of_mem hx; exact (h2 i hi).2, ⟨by rw [hfm, qp6 _ hll, List.length_map], fun hn => ⟨a, rfl, ?_, ?_⟩⟩⟩
  ·have h3 := hat 0 hn 0 h0
   have h4 := hf xs[0]
   rw [List.getElem?_eq_getElem (by omega)] at h3
   have := World.block_lt_of_cell? W _ h3
   simpa [Addr.add] using this
  ·intro p u hu
   rw [hfm] at hu
   obtain ⟨i, j, hi, hj, rfl, hu'⟩ := flat_get _ hll p u hu
   rw [List.length_map] at hi
   rw [hat i hi j hj, ← hu', List.getElem_map]
end
section
variable {H : Type} {enc : TypeId × Value → H} {W : World} {b0 : Nat} {v : Value} {d : DataW H} {p : List MemPlace}
end
end Go.Proofs.YtfeheccoijnbaaaDoor
namespace Go.Proofs.YtfeheccoijnbaaaDoor
open Go.RowKit
def qz : Nat → List Nat → List Bk × Nat × Nat
 | 0, _ => ([], 0, 0)
 | f + 1, l => if l.length = 0 then ([], 0, 0) else
  if (readB l).2.2 ≠ 0 then ([], 0, (readB l).2.2) else
   ((readB l).1 :: (qz f (l.drop (readB l).2.1)).1, (readB l).2.1 + (qz f (l.drop (readB l).2.1)).2.1, (qz f (l.drop (readB l).2.1)).2.2)
def qfm (l : List Nat) : List Bk × Nat × Nat := if 524288 < l.length then ([], 0, 3) else qz l.length l
theorem qlb {f : Nat} {l : List Nat} (h : l.length = 0) : qz f l = ([], 0, 0) := by
 cases f with
 | zero => rfl
 | succ f => rw [qz, if_pos h]
theorem qlc {f : Nat} {l : List Nat} {b : Bk} {m er : Nat} (hf : 0 < f) (h : 0 < l.length) (hq : readB l = (b, m, er)) (he : er ≠ 0) : qz f l = ([], 0, er) := by
 cases f with
 | zero => omega
 | succ f => rw [qz, if_neg (by omega), if_pos (by rw [hq]; exact he), hq]
theorem qj5 {f : Nat} {l : List Nat} {b : Bk} {m : Nat} (hf : 0 < f) (h : 0 < l.length) (hq : readB l = (b, m, 0)) : qz f l = (b :: (qz (f - 1) (l.drop m)).1, m + (qz (f - 1) (l.drop m)).2.1, (qz (f - 1) (l.drop m)).2.2) := by
 cases f with
 | zero => omega
 | succ f => rw [qz, if_neg (by omega), if_neg (by rw [hq]; exact fun h => h rfl), hq]; rfl
def qhq (W : World) (lp : Nat) (Inv : List Nat → List Fact → Prop) (Stop : List Fact → Prop) : Prop :=
 ∀ (rest : List Nat) (F fr : List Fact) (w : World) (A : Option Addr) (c : Nat) (b : Bk) (m er : Nat), Inv rest F → readB rest = (b, m, er) → 0 < rest.length → (∀ x ∈ rest, x < 256) → b.evs.length ≤ c → Mem W w (.row (.slice A b.evs.length c) b.evs.length (b.evs.flatMap evL) 45 11 :: (F ++ fr)) →
  YieldAt Fence.wide 0 Tryd.prog lp #[.agg #[.int .u8 (b.kind : Int), .int .u8 (b.cpu : Int), .int .i64 b.lost, .int .i64 b.next, .slice A b.evs.length c, .int .i64 (m : Int)], .int .i64 (er : Int)] w fun e w' => ∃ F', Mem W w' (F' ++ fr) ∧ ((er = 0 ∧ e = .returned (.bool true) ∧ Inv (rest.drop m) F') ∨ (er ≠ 0 ∧ e = .returned (.bool false) ∧ Stop F'))
def qp9 (W : World) (Inv : List Nat → List Fact → Prop) (Stop : List Fact → Prop) (r : Ending) (w' : World) : Prop := ∃ v, r = .returned v ∧ ∃ F', Mem W w' F' ∧ (Inv [] F' ∨ Stop F')
theorem qgz {W : World} {fr : List Fact} {er : Nat} {I S : List Fact → Prop} : ∀ (e : Ending) (w' : World), (∃ F', Mem W w' (F' ++ fr) ∧ ((er = 0 ∧ e = .returned (.bool true) ∧ I F') ∨ (er ≠ 0 ∧ e = .returned (.bool false) ∧ S F'))) → ∃ v, e = .returned v
 | _, _, ⟨_, _, .inl ⟨_, h, _⟩⟩ => ⟨_, h⟩
 | _, _, ⟨_, _, .inr ⟨_, h, _⟩⟩ => ⟨_, h⟩
theorem Rd.qvy {w : World} {B k c : Nat} {A : Option Addr} {l : List Nat} (h : Rd w B 1 A l.length (l.map B8)) (hk : k ≤ l.length) (hc : l.length ≤ c) : Rd w B 1 (if c = k then A else A.map (·.add (k * 1))) (l.drop k).length ((l.drop k).map B8) := by
 rw [List.length_drop]
 exact h.qmm hk hc
theorem qdq (A : Option Addr) (n c : Nat) (l : List It) (w : World) (hr : Rd w w.heap.size 12 A n (l.flatMap itL)) (hln : l.length = n) (hn : n ≤ 1000000) :
    Calls Tryd.prog 36 #[.slice A n c] w fun r w' => (∃ A c, r = .returned (.slice A n c) ∧ w'.ownsRow w.heap.size 45 11 (.slice A n c) n ((evsI l).flatMap evL) ∧ n ≤ c) ∧ Below w.heap.size w w' := by
 refine qh (vs := [.slice A n c]) Tryd.func36 rfl rfl (by kernel_rfl) (σ0 := [(0, .slice A n c)]) rfl ?_
 intro a HF
 have HM := Mem.start w
 refine wp_seq (qa ?_)
 refine fp HF 1 0 [(2, .slice none 0 0)] fun a HF => ?_
 refine qb rfl (wp_seq (qa ?_))
 refine fp HF 1 0 [(3, .slice none 0 0)] fun a HF => ?_
 refine qb rfl ?_
 replace HM := HM.nil 45 11
 refine wp_seq (wp_seq (qa ?_))
 refine fp HF 1 0 [(6, .slice A n c)] fun a HF => ?_
 refine fy HF HM 1 rfl rfl rfl (Yl.len rfl rfl (by kernel_rfl)) fun a HF => ?_
 refine fp HF 1 2 [(8, vI 0)] fun a HF => ?_
 refine qb rfl (wp_block ?_)
 refine zy (fun mS aS wS => ∃ (k : Nat) (Ak : Option Addr) (ck : Nat), (k ≤ n) ∧ (k ≤ ck) ∧ mS = n - k ∧ Fr aS 19 [] [(8, vI k), (7, vI n), (6, .slice A n c), (3, .slice Ak k ck), (2, .slice none 0 0)] ∧ Mem w wS [.row (.slice Ak k ck) k ((evsI (l.take k)).flatMap evL) 45 11]) (m := n - 0) ⟨0, none, 0, Nat.zero_le _, Nat.le_refl _, rfl, HF.sub (by kernel_rfl), HM.picks [0] (by decide) rfl⟩ ?_
 clear HF HM; rintro mS a w_ ⟨k, Ak, ck, hk, hck, rfl, HF, HM⟩
 refine wp_seq (qa ?_)
 refine fp HF 1 0 [(9, .bool (decide ((k : Int) < (n : Int))))] fun a HF => ?_
 refine qb rfl (wp_seq ?_)
 rcases HF.tf 9 rfl with ⟨hb9, HF⟩ | ⟨hb9, HF⟩
 ·
  have hd9 := of_decide_eq_true hb9
  have hk9 : k < n := by omega
  refine qf HF rfl (wp_skip (wp_seq (wp_block (wp_seq (qa ?_)))))
  obtain ⟨gA, oA, rfl, _⟩ := hr.qa2 (Nat.lt_of_le_of_lt (Nat.zero_le _) (show k < n from by omega)) (by decide)
  refine fy HF HM 0 rfl rfl rfl (v := vP gA (oA + k * 12)) (Yl.ix gA oA k 12 rfl rfl rfl) fun a HF => ?_
  refine fy HF HM 1 rfl rfl rfl (v := .agg ((l.getD k It.zero).cells)) (Yl.zg rfl rfl si_it rfl (fun _ h => (h.old hr).qdr qbv ((getD_at It.zero (k := k) (by first | omega | (simp; omega)))))) fun a HF => ?_
  refine fo HF 2 rfl rfl ?_
  refine qp HF HM (cs := #[vI 0, vI 0, vB 0, vB 0, vI 0, vI 0, vI 0, vI 0, vI 0, vQ 0, vI 0, vI 0]) rfl (by kernel_rfl) rfl (by decide) ?_
  clear HF HM; intro a w5 g5 HF HM
  refine fo HF 3 rfl rfl ?_
  refine e_sa HF HM 0 rfl rfl rfl rfl rfl si_it rfl rfl (ql9 (l.getD k It.zero)) ?_
  clear HM; intro w4_3 HM
  refine qb rfl (qa ?_)
  refine fp HF 2 0 [(13, vP g5 0), (12, .slice Ak k ck)] fun a HF => ?_
  refine fy HF HM 2 rfl rfl rfl (v := .agg #[vI ((l.getD k It.zero).e.seq), vI ((l.getD k It.zero).e.time), vB ((l.getD k It.zero).e.cpu), vB ((l.getD k It.zero).e.kind), vI ((l.getD k It.zero).e.task), vI ((l.getD k It.zero).e.group), vI ((l.getD k It.zero).e.to), vI ((l.getD k It.zero).e.weight), vI ((l.getD k It.zero).e.ticks), vQ ((l.getD k It.zero).e.mask), vI ((l.getD k It.zero).e.got)]) (Yl.zg rfl rfl ⟨(by kernel_rfl), (by kernel_rfl)⟩ rfl (fun _ h => h.sub (i := 0) rfl 0 rfl)) fun a HF => ?_
  refine fo HF 3 rfl rfl ?_
  refine zo HF HM (vs := [(0, .agg #[vI ((l.getD k It.zero).e.seq), vI ((l.getD k It.zero).e.time), vB ((l.getD k It.zero).e.cpu), vB ((l.getD k It.zero).e.kind), vI ((l.getD k It.zero).e.task), vI ((l.getD k It.zero).e.group), vI ((l.getD k It.zero).e.to), vI ((l.getD k It.zero).e.weight), vI ((l.getD k It.zero).e.ticks), vQ ((l.getD k It.zero).e.mask), vI ((l.getD k It.zero).e.got)])]) (cs := #[vI ((l.getD k It.zero).e.seq), vI ((l.getD k It.zero).e.time), vB ((l.getD k It.zero).e.cpu), vB ((l.getD k It.zero).e.kind), vI ((l.getD k It.zero).e.task), vI ((l.getD k It.zero).e.group), vI ((l.getD k It.zero).e.to), vI ((l.getD k It.zero).e.weight), vI ((l.getD k It.zero).e.ticks), vQ ((l.getD k It.zero).e.mask), vI ((l.getD k It.zero).e.got)]) rfl ei_ev (by decide) rfl (by kernel_rfl) rfl (by decide) ?_
  clear HF HM; intro a w15 g15 HF HM
  refine fo HF 4 rfl rfl ?_
  refine zh HF HM (i := 2) rfl ei_ev rfl rfl rfl (news := (evL (l.getD k It.zero).e)) (HM.rdBlk (i := 0) (n := 1) (size := 11) rfl rfl) (zp _) (by omega) (by omega) rfl (by decide) ?_
  clear HF HM; intro a w16 A16 c16 HF HM hc16
  rw [show ((evsI (l.take k)).flatMap evL) ++ (evL (l.getD k It.zero).e) = ((evsI (l.take (k + 1))).flatMap evL) from by rw [qnd (by omega)]] at HM
  refine fp HF 1 5 [(3, .slice A16 (k + 1) c16)] fun a HF => ?_
  refine qb rfl (qa ?_)
  refine fp HF 1 0 [(17, vI (IntKind.i64.wrap ((k : Int) + 1)))] fun a HF => ?_
  replace HF := HF.sp 17 (vI (k + 1 : Nat)) rfl (ql (by omega) (by omega))
  refine fp HF 1 1 [(8, vI (k + 1 : Nat))] fun a HF => ?_
  refine qb rfl ?_
  exact ⟨_, (by omega), k + 1, A16, c16, by omega, hc16, rfl, HF.sub (by kernel_rfl), HM.picks [2] (by decide) rfl⟩
 have hd9 := of_decide_eq_false hb9
 have hkn : k = n := by omega
 refine qe HF rfl (wp_exit (wp_seq (qa ?_)))
 refine fp HF 2 0 [(2, .slice Ak k ck)] fun a HF => ?_
 refine qb rfl (wp_ret ?_)
 exact ret1 rfl HF (.tmp HF rfl) (⟨⟨Ak, ck, by rw [hkn], by have h := HM.own (i := 0) rfl; rw [hkn, List.take_of_length_le (by omega)] at h; exact h, by omega⟩, HM.below⟩)
theorem qhv (A : Option Addr) (n c : Nat) (l : List It) (w : World) (hr : Rd w w.heap.size 12 A n (l.flatMap itL)) (hln : l.length = n) (hn : n ≤ 1000000) :
    Calls Tryd.prog 37 #[.slice A n c] w fun r w' => (∃ A c, r = .returned (.slice A n c) ∧ w'.ownsRow w.heap.size 3 1 (.slice A n c) n ((befI l).map I64i) ∧ n ≤ c) ∧ Below w.heap.size w w' := by
 refine qh (vs := [.slice A n c]) Tryd.func37 rfl rfl (by kernel_rfl) (σ0 := [(0, .slice A n c)]) rfl ?_
 intro a HF
 have HM := Mem.start w
 refine wp_seq (qa ?_)
 refine fp HF 1 0 [(2, .slice none 0 0)] fun a HF => ?_
 refine qb rfl (wp_seq (qa ?_))
 refine fp HF 1 0 [(3, .slice none 0 0)] fun a HF => ?_
 refine qb rfl ?_
 replace HM := HM.nil 3 1
 refine wp_seq (wp_seq (qa ?_))
 refine fp HF 1 0 [(6, .slice A n c)] fun a HF => ?_
 refine fy HF HM 1 rfl rfl rfl (Yl.len rfl rfl (by kernel_rfl)) fun a HF => ?_
 refine fp HF 1 2 [(8, vI 0)] fun a HF => ?_
 refine qb rfl (wp_block ?_)
 refine zy (fun mS aS wS => ∃ (k : Nat) (Ak : Option Addr) (ck : Nat), (k ≤ n) ∧ (k ≤ ck) ∧ mS = n - k ∧ Fr aS 19 [] [(8, vI k), (7, vI n), (6, .slice A n c), (3, .slice Ak k ck), (2, .slice none 0 0)] ∧ Mem w wS [.row (.slice Ak k ck) k ((befI (l.take k)).map I64i) 3 1]) (m := n - 0) ⟨0, none, 0, Nat.zero_le _, Nat.le_refl _, rfl, HF.sub (by kernel_rfl), HM.picks [0] (by decide) rfl⟩ ?_
 clear HF HM; rintro mS a w_ ⟨k, Ak, ck, hk, hck, rfl, HF, HM⟩
 refine wp_seq (qa ?_)
 refine fp HF 1 0 [(9, .bool (decide ((k : Int) < (n : Int))))] fun a HF => ?_
 refine qb rfl (wp_seq ?_)
 rcases HF.tf 9 rfl with ⟨hb9, HF⟩ | ⟨hb9, HF⟩
 ·
  have hd9 := of_decide_eq_true hb9
  have hk9 : k < n := by omega
  refine qf HF rfl (wp_skip (wp_seq (wp_block (wp_seq (qa ?_)))))
  obtain ⟨gA, oA, rfl, _⟩ := hr.qa2 (Nat.lt_of_le_of_lt (Nat.zero_le _) (show k < n from by omega)) (by decide)
  refine fy HF HM 0 rfl rfl rfl (v := vP gA (oA + k * 12)) (Yl.ix gA oA k 12 rfl rfl rfl) fun a HF => ?_
  refine fy HF HM 1 rfl rfl rfl (v := .agg ((l.getD k It.zero).cells)) (Yl.zg rfl rfl si_it rfl (fun _ h => (h.old hr).qdr qbv ((getD_at It.zero (k := k) (by first | omega | (simp; omega)))))) fun a HF => ?_
  refine fo HF 2 rfl rfl ?_
  refine qp HF HM (cs := #[vI 0, vI 0, vB 0, vB 0, vI 0, vI 0, vI 0, vI 0, vI 0, vQ 0, vI 0, vI 0]) rfl (by kernel_rfl) rfl (by decide) ?_
  clear HF HM; intro a w5 g5 HF HM
  refine fo HF 3 rfl rfl ?_
  refine e_sa HF HM 0 rfl rfl rfl rfl rfl si_it rfl rfl (ql9 (l.getD k It.zero)) ?_
  clear HM; intro w4_3 HM
  refine qb rfl (qa ?_)
  refine fp HF 2 0 [(13, vP g5 11), (12, .slice Ak k ck)] fun a HF => ?_
  refine fy HF HM 2 rfl rfl rfl (v := vI ((l.getD k It.zero).before)) (Yl.qi rfl rfl (by kernel_rfl) (fun _ h => h.cell (i := 0) rfl (rfl))) fun a HF => ?_
  refine fo HF 3 rfl rfl ?_
  refine zo HF HM (vs := [(0, vI ((l.getD k It.zero).before))]) (cs := #[vI ((l.getD k It.zero).before)]) rfl qlm (by decide) rfl (by kernel_rfl) rfl (by decide) ?_
  clear HF HM; intro a w15 g15 HF HM
  refine fo HF 4 rfl rfl ?_
  refine zh HF HM (i := 2) rfl qlm rfl rfl rfl (news := [I64i (l.getD k It.zero).before]) (HM.rdBlk (i := 0) (n := 1) (size := 1) rfl rfl) (by intro v hv; simp at hv; subst hv; rfl) (by omega) (by omega) rfl (by decide) ?_
  clear HF HM; intro a w16 A16 c16 HF HM hc16
  rw [show ((befI (l.take k)).map I64i) ++ [I64i (l.getD k It.zero).before] = ((befI (l.take (k + 1))).map I64i) from by rw [qne (by omega)]] at HM
  refine fp HF 1 5 [(3, .slice A16 (k + 1) c16)] fun a HF => ?_
  refine qb rfl (qa ?_)
  refine fp HF 1 0 [(17, vI (IntKind.i64.wrap ((k : Int) + 1)))] fun a HF => ?_
  replace HF := HF.sp 17 (vI (k + 1 : Nat)) rfl (ql (by omega) (by omega))
  refine fp HF 1 1 [(8, vI (k + 1 : Nat))] fun a HF => ?_
  refine qb rfl ?_
  exact ⟨_, (by omega), k + 1, A16, c16, by omega, hc16, rfl, HF.sub (by kernel_rfl), HM.picks [2] (by decide) rfl⟩
 have hd9 := of_decide_eq_false hb9
 have hkn : k = n := by omega
 refine qe HF rfl (wp_exit (wp_seq (qa ?_)))
 refine fp HF 2 0 [(2, .slice Ak k ck)] fun a HF => ?_
 refine qb rfl (wp_ret ?_)
 exact ret1 rfl HF (.tmp HF rfl) (⟨⟨Ak, ck, by rw [hkn], by have h := HM.own (i := 0) rfl; rw [hkn, List.take_of_length_le (by omega)] at h; exact h, by omega⟩, HM.below⟩)
theorem qli (cpu : Nat) (A : Option Addr) (n c : Nat) (l : List It) (opn : Int) (hok : ∀ x ∈ l, x.Ok) (ho : I64 opn) (B : Nat) (w : World) (hL : LaidX B w) (hB : B ≤ w.heap.size) (hr : Rd w w.heap.size 12 A n (l.flatMap itL)) (hln : l.length = n) (hn : n ≤ 1000000) :
    Calls Tryd.prog 34 #[.int .u8 (cpu : Int), .slice A n c, .int .i64 opn] w (Is w (.bool (zt cpu l opn))) := by
 refine qh (vs := [vB cpu, .slice A n c, vI opn]) Tryd.func34 rfl rfl (by kernel_rfl) (σ0 := [(0, vB cpu), (1, .slice A n c), (2, vI opn)]) rfl ?_
 intro a HF
 have HM := Mem.start w
 refine wp_seq (qa ?_)
 refine fp HF 1 0 [(6, .bool false)] fun a HF => ?_
 refine qb rfl (wp_seq (wp_seq (qa ?_)))
 refine fp HF 1 0 [(13, .slice A n c)] fun a HF => ?_
 refine fo HF 1 rfl rfl ?_
 refine e_cl HF [.slice A n c] rfl rfl (qdq A n c l _ (HM.old hr) (hln) (by omega)) ?_
 rintro _ w14 ⟨⟨A14, c14, rfl, ho, hc14⟩, hbw⟩
 refine ⟨_, rfl, ?_⟩
 replace HM := HM.callRow hbw ho
 clear HF; intro a HF
 refine fo HF 2 rfl rfl ?_
 refine e_cl HF [.slice A14 n c14] rfl rfl (qst A14 n c14 (evsI l) (qtz hok) B _ (hL.mem HM hB).laid (HM.le hB) (HM.rd (i := 0) rfl) (by omega) (i := (rowR (evsI l)).1) (er := (rowR (evsI l)).2) rfl) ?_
 rintro _ w15 ⟨rfl, hbw⟩
 refine ⟨_, rfl, ?_⟩
 replace HM := HM.call hbw
 clear HF; intro a HF
 refine fp HF 5 3 [(8, vI ((rowR (evsI l)).2))] fun a HF => ?_
 refine qb rfl (wp_seq (qa ?_))
 refine fp HF 2 0 [(19, .bool (((rowR (evsI l)).2 : Int) != (0 : Int)))] fun a HF => ?_
 refine qb rfl ?_
 rcases HF.tf 19 rfl with ⟨hb19, HF⟩ | ⟨hb19, HF⟩
 ·
  have hd19 := bne_iff_ne.1 hb19
  refine qf HF rfl (wp_seq (qa ?_))
  refine fp HF 1 0 [(6, .bool false)] fun a HF => ?_
  refine qb rfl (wp_ret ?_)
  replace HM := HM.picks (fs' := []) [] (by decide) rfl
  exact ret1 rfl HF (.tmp HF rfl) (⟨by rw [qk8 (by omega)], HM.below⟩)
 have hd19 := bne_eq_false_iff_eq.1 hb19
 refine qe HF rfl (wp_skip (wp_seq (qa ?_)))
 refine fp HF 1 0 [(9, vI 281474976710656)] fun a HF => ?_
 refine qb rfl (wp_seq (wp_seq (qa ?_)))
 refine fp HF 1 0 [(20, vI opn)] fun a HF => ?_
 refine fo HF 1 rfl rfl ?_
 refine zo HF HM (vs := [(0, vI opn)]) (cs := #[vI opn]) rfl qlm (by decide) rfl (by kernel_rfl) rfl (by decide) ?_
 clear HF HM; intro a w21 g21 HF HM
 refine fp HF 1 2 [(22, .slice A n c)] fun a HF => ?_
 refine fo HF 3 rfl rfl ?_
 refine e_cl HF [.slice A n c] rfl rfl (qhv A n c l _ (HM.old hr) (hln) (by omega)) ?_
 rintro _ w23 ⟨⟨A23, c23, rfl, ho, hc23⟩, hbw⟩
 refine ⟨_, rfl, ?_⟩
 replace HM := HM.callRow hbw ho
 clear HF; intro a HF
 refine fo HF 4 rfl rfl ?_
 replace HM := HM.blkRow (i := 1) (n := 1) (size := 1) rfl rfl (by decide)
 refine zh HF HM (i := 1) rfl qlm rfl rfl rfl (news := ((befI l).map I64i)) (HM.rd (i := 0) rfl) (qr3 _) (by omega) (by omega) rfl (by decide) ?_
 clear HF HM; intro a w24 A24 c24 HF HM hc24
 rw [show ((#[vI opn]).toList) ++ ((befI l).map I64i) = (opn :: befI l).map I64i from rfl] at HM
 refine fy HF HM 5 rfl rfl rfl (Yl.len rfl rfl (by kernel_rfl)) fun a HF => ?_
 refine fp HF 1 6 [(26, vI 0)] fun a HF => ?_
 refine qb rfl ?_
 have hxl : (opn :: befI l).length = 1 + n := by rw [List.length_cons, qil]; omega
 refine wp_block ?_
 replace HM := HM.picks (fs' := [.row (.slice A24 (1 + n) c24) (1 + n) ((opn :: befI l).map I64i) 3 1]) [1] (by decide) rfl
 refine zy (fun mS aS wS => ∃ (k : Nat) (r : Int), (k ≤ 1 + n) ∧ (0 ≤ r) ∧ (r ≤ 281474976710656) ∧ (qa1 qb8 (opn :: befI l) = qa1 r ((opn :: befI l).drop k)) ∧ mS = 1 + n - k ∧ Fr aS 53 [] [(26, vI k), (25, vI (1 + n : Nat)), (24, .slice A24 (1 + n) c24), (9, vI r), (19, .bool false), (6, .bool false), (0, vB cpu), (1, .slice A n c)] ∧ Mem w wS [.row (.slice A24 (1 + n) c24) (1 + n) ((opn :: befI l).map I64i) 3 1]) (m := 1 + n - 0) ⟨0, 281474976710656, Nat.zero_le _, by omega, Int.le_refl _, rfl, rfl, HF.sub (by kernel_rfl), HM.picks [0] (by decide) rfl⟩ ?_
 clear HF HM; rintro mS a w_ ⟨k, r, hk, hr0, hr1, hroom, rfl, HF, HM⟩
 refine wp_seq (qa ?_)
 refine fp HF 1 0 [(27, .bool (decide ((k : Int) < ((1 + n : Nat) : Int))))] fun a HF => ?_
 refine qb rfl (wp_seq ?_)
 rcases HF.tf 27 rfl with ⟨hb27, HF⟩ | ⟨hb27, HF⟩
 ·
  have hd27 := of_decide_eq_true hb27
  have hk27 : k < 1 + n := by omega
  have hat := qp2 (xs := opn :: befI l) (k := k) (r := r) (by omega)
  refine qf HF rfl (wp_skip (wp_seq (wp_block (wp_seq (qa ?_)))))
  obtain ⟨gA24, rfl⟩ := qbp (HM.own (i := 0) rfl) (Nat.lt_of_le_of_lt (Nat.zero_le _) (show k < 1 + n from by omega))
  refine fy HF HM 0 rfl rfl rfl (v := vP gA24 (k * 1)) (Yl.ix0 gA24 k 1 rfl rfl rfl) fun a HF => ?_
  refine fy HF HM 1 rfl rfl rfl (v := vI ((opn :: befI l).getD k 0)) (Yl.qi rfl rfl (by kernel_rfl) (fun _ h => h.qs6 (i := 0) rfl (k := k) (qas (F := I64i) (k := k) (x := ((opn :: befI l).getD k 0)) ((getD_at 0 (k := k) (by first | omega | (simp; omega))))))) fun a HF => ?_
  refine fp HF 1 2 [(11, vI ((opn :: befI l).getD k 0))] fun a HF => ?_
  refine qb rfl (wp_seq (wp_seq (qa ?_)))
  refine fp HF 3 0 [(32, .bool (decide ((((opn :: befI l).getD k 0) : Int) < (0 : Int))))] fun a HF => ?_
  rcases HF.tf 32 rfl with ⟨hb32, HF⟩ | ⟨hb32, HF⟩
  ·
   have hd32 := of_decide_eq_true hb32
   refine fp HF 4 3 [(36, .bool true)] fun a HF => ?_
   refine qb rfl (qf HF rfl (wp_seq (qa ?_)))
   refine fp HF 1 0 [(6, .bool false)] fun a HF => ?_
   refine qb rfl (wp_ret ?_)
   exact ret1 rfl HF (.tmp HF rfl) (⟨by rw [qfl (by rw [hroom, hat, decide_eq_false (by omega), Bool.false_and])], HM.below⟩)
  have hd32 := of_decide_eq_false hb32
  refine fp HF 4 3 [(36, .bool (decide ((((opn :: befI l).getD k 0) : Int) > (r : Int))))] fun a HF => ?_
  refine qb rfl ?_
  rcases HF.tf 36 rfl with ⟨hb36, HF⟩ | ⟨hb36, HF⟩
  ·
   have hd36 := of_decide_eq_true hb36
   refine qf HF rfl (wp_seq (qa ?_))
   refine fp HF 1 0 [(6, .bool false)] fun a HF => ?_
   refine qb rfl (wp_ret ?_)
   exact ret1 rfl HF (.tmp HF rfl) (⟨by rw [qfl (by rw [hroom, hat, decide_eq_false (by omega), Bool.false_and])], HM.below⟩)
  have hd36 := of_decide_eq_false hb36
  have hat2 : qa1 qb8 (opn :: befI l) = qa1 (r - ((opn :: befI l).getD k 0)) ((opn :: befI l).drop (k + 1)) := by rw [hroom, hat, decide_eq_true ⟨by omega, by omega⟩, Bool.true_and]
  refine qe HF rfl (wp_skip (qa ?_))
  refine fp HF 3 0 [(39, vI (IntKind.i64.wrap (r - ((opn :: befI l).getD k 0))))] fun a HF => ?_
  replace HF := HF.sp 39 (vI (r - ((opn :: befI l).getD k 0))) rfl (qha ⟨by omega, by omega⟩)
  refine fp HF 1 3 [(9, vI (r - ((opn :: befI l).getD k 0)))] fun a HF => ?_
  refine qb rfl (qa ?_)
  refine fp HF 1 0 [(40, vI (IntKind.i64.wrap ((k : Int) + 1)))] fun a HF => ?_
  replace HF := HF.sp 40 (vI (k + 1 : Nat)) rfl (ql (by omega) (by omega))
  refine fp HF 1 1 [(26, vI (k + 1 : Nat))] fun a HF => ?_
  refine qb rfl ?_
  exact ⟨_, (by omega), k + 1, (r - ((opn :: befI l).getD k 0)), by omega, by omega, by omega, hat2, rfl, HF.sub (by kernel_rfl), HM.picks [0] (by decide) rfl⟩
 have hd27 := of_decide_eq_false hb27
 have hkn : k = 1 + n := by omega
 have hrt : qa1 qb8 (opn :: befI l) = true := by rw [hroom, List.drop_of_length_le (by omega)]; rfl
 refine qe HF rfl (wp_exit (wp_seq (qa ?_)))
 refine fp HF 1 0 [(41, .slice A n c)] fun a HF => ?_
 refine fy HF HM 1 rfl rfl rfl (Yl.len rfl rfl (by kernel_rfl)) fun a HF => ?_
 refine fp HF 2 2 [(44, .bool ((n : Int) == (0 : Int)))] fun a HF => ?_
 rcases HF.tf 44 rfl with ⟨hb44, HF⟩ | ⟨hb44, HF⟩
 ·
  have hd44 := eq_of_beq hb44
  refine fp HF 9 4 [(6, .bool true)] fun a HF => ?_
  refine qb rfl (wp_ret ?_)
  exact ret1 rfl HF (.tmp HF rfl) (⟨by rw [qho (by omega) hrt, qp3 (by omega)], HM.below⟩)
 have hd44 := ne_of_beq_false hb44
 refine fp HF 1 4 [(45, .slice A n c)] fun a HF => ?_
 obtain ⟨gA, oA, rfl, _⟩ := hr.qa2 (Nat.lt_of_le_of_lt (Nat.zero_le _) (show 0 < n from by omega)) (by decide)
 refine fy HF HM 5 rfl rfl rfl (v := vP gA oA) (Yl.indexAddr (ad := ⟨gA, oA, none⟩) (y := 0) (sz := 12) rfl rfl rfl (by omega) (by kernel_rfl)) fun a HF => ?_
 refine fp HF 2 6 [(48, vP gA (oA + 2))] fun a HF => ?_
 refine fy HF HM 8 rfl rfl rfl (v := vB ((l.getD 0 It.zero).e.cpu)) (Yl.qi rfl rfl (by kernel_rfl) (fun _ h => (h.old hr).partAt qbv (k := 0) (j := 2) (x := (l.getD 0 It.zero)) ((getD_at It.zero (k := 0) (by first | omega | (simp; omega)))) rfl)) fun a HF => ?_
 refine fp HF 4 9 [(6, .bool (((l.getD 0 It.zero).e.cpu : Int) == (cpu : Int)))] fun a HF => ?_
 refine qb rfl (wp_ret ?_)
 exact ret1 rfl HF (.tmp HF rfl) (⟨by rw [qho (by omega) hrt, qnf (by omega)]; congr 2; rw [Bool.eq_iff_iff, beq_iff_eq, decide_eq_true_eq]; omega, HM.below⟩)
theorem qmg (cpu : Nat) (A : Option Addr) (n c : Nat) (l : List It) (opn : Int) (k : Nat) (hG : GoodI cpu l opn) (hk : k ≤ n) (g1 g2 g3 : Nat) (w : World) (hg1 : w.heap[g1]? = some (.cells #[.int .u8 (cpu : Int)] 5 (0, 0))) (hg2 : w.heap[g2]? = some (.cells #[.slice A n c] 22 (0, 0))) (hg3 : w.heap[g3]? = some (.cells #[.int .i64 opn] 3 (0, 0))) (hr : Rd w w.heap.size 12 A l.length (l.flatMap itL)) (hc : n ≤ c) (hln : l.length = n) (hn : n ≤ 1000000) :
    Calls Tryd.prog 35 #[.int .i64 (k : Int), .pointer (some ⟨g1, 0, none⟩), .pointer (some ⟨g2, 0, none⟩), .pointer (some ⟨g3, 0, none⟩)] w (qvj w (ofB cpu l opn k)) := by
 refine qh (vs := [vI k, vP g1 0, vP g2 0, vP g3 0]) Tryd.func35 rfl rfl (by kernel_rfl) (σ0 := [(0, vI k), (1, vP g1 0), (2, vP g2 0), (3, vP g3 0)]) rfl ?_
 intro a HF
 have HM := Mem.start w
 refine wp_seq (qa ?_)
 refine fo HF 0 rfl rfl ?_
 refine qp HF HM (cs := #[vB 0, vB 0, vI 0, vI 0, .slice none 0 0]) rfl (by kernel_rfl) rfl (by decide) ?_
 clear HF HM; intro a w5 g5 HF HM
 refine qb rfl ?_
 refine qay (fun aS wS => ∃ (A13 : Option Addr) (c13 : Nat) (g6 : Nat), Fr aS 40 [] [(6, vP g6 0), (5, vP g5 0), (0, vI k), (2, vP g2 0), (3, vP g3 0)] ∧ Mem w wS [.blk g6 #[vB 1, vB cpu, vI 0, vI 0, .slice A13 k c13] 41, .row (.slice A13 k c13) k ((evsI (l.take k)).flatMap evL) 45 11, .blk g5 #[vB 0, vB 0, vI 0, vI 0, .slice none 0 0] 41] ∧ (k ≤ c13)) ?_ ?_
 ·
  refine qae HM [.blk g5 #[vB 0, vB 0, vI 0, vI 0, .slice none 0 0] 41] [0] [7] fun HM HS => ?_
  refine ap HF (fun _ => HS) [2] #[false, false, true, false, false, false, false, false] [(11, vI k)] fun a HF => ?_
  refine ay HF HS 0 rfl rfl rfl (v := vB cpu) (Yl.qi rfl rfl (by kernel_rfl) (fun _ h => h.ze hg1 rfl)) fun a HF => ?_
  refine ay HF HS 1 rfl rfl rfl (v := .slice A n c) (Yl.qi rfl rfl (by kernel_rfl) (fun _ h => h.ze hg2 rfl)) fun a HF => ?_
  refine ay HF HS 3 rfl rfl rfl (v := .slice A k c) (Yl.qbz ei_it (j := k) rfl rfl rfl (by omega)) fun a HF => ?_
  refine qg [4, 6] (by kernel_rfl) rfl ?_
  refine all_cons ?_ ?_
  ·refine qj HF (i := 4) rfl rfl ?_
   refine e_cl HF [.slice A k c] rfl rfl (qdq A k c (l.take k) _ (HM.old (Rd.qqz qbv hr (by omega))) (by rw [List.length_take]; omega) (by omega)) ?_
   rintro _ w13 ⟨⟨A13, c13, rfl, ho, hc13⟩, hbw⟩
   refine ⟨_, rfl, ?_⟩
   replace HM := HM.callRow hbw ho
   clear HF; intro a HF
   refine keepS (HM.picks [1] (by decide) rfl) (fun HS => ?_)
   refine ay HF HS 5 rfl rfl rfl (v := .agg #[vB 1, vB cpu, vI 0, vI 0, .slice A13 k c13]) (Yl.build (vs := [(0, vB 1), (1, vB cpu), (4, .slice A13 k c13)]) rfl (by kernel_rfl) (by kernel_rfl)) fun a HF => ?_
   refine qg [6] (by kernel_rfl) rfl ?_
   refine all_cons ?_ all_nil
   refine qj HF (i := 6) rfl rfl ?_
   refine qp HF HM (cs := #[vB 0, vB 0, vI 0, vI 0, .slice none 0 0]) rfl (by kernel_rfl) rfl (by decide) ?_
   clear HF HM; intro a w6 g6 HF HM
   refine keepS (HM.picks [2] (by decide) rfl) (fun HS => ?_)
   refine qg [7] (by kernel_rfl) rfl ?_
   refine all_cons ?_ all_nil
   refine qj HF (i := 7) rfl rfl ?_
   refine e_sa HF HM 0 rfl rfl rfl rfl rfl si_bk rfl rfl (by simp [Value.oneCell']) ?_
   clear HM; intro w1_7 HM
   refine noS (by kernel_rfl) ?_
   refine qn (by kernel_rfl) ?_
   exact ⟨A13, c13, g6, HF.sub (by kernel_rfl), HM.picks [0, 1, 2] (by decide) rfl, hc13⟩
  refine all_cons ?_ all_nil
  refine qj HF (i := 6) rfl rfl ?_
  refine qp HF HM (cs := #[vB 0, vB 0, vI 0, vI 0, .slice none 0 0]) rfl (by kernel_rfl) rfl (by decide) ?_
  clear HF HM; intro a w6 g6 HF HM
  refine keepS (HM.picks [1] (by decide) rfl) (fun HS => ?_)
  refine qg [4] (by kernel_rfl) rfl ?_
  refine all_cons ?_ all_nil
  refine qj HF (i := 4) rfl rfl ?_
  refine e_cl HF [.slice A k c] rfl rfl (qdq A k c (l.take k) _ (HM.old (Rd.qqz qbv hr (by omega))) (by rw [List.length_take]; omega) (by omega)) ?_
  rintro _ w13 ⟨⟨A13, c13, rfl, ho, hc13⟩, hbw⟩
  refine ⟨_, rfl, ?_⟩
  replace HM := HM.callRow hbw ho
  clear HF; intro a HF
  refine keepS (HM.picks [2] (by decide) rfl) (fun HS => ?_)
  refine ay HF HS 5 rfl rfl rfl (v := .agg #[vB 1, vB cpu, vI 0, vI 0, .slice A13 k c13]) (Yl.build (vs := [(0, vB 1), (1, vB cpu), (4, .slice A13 k c13)]) rfl (by kernel_rfl) (by kernel_rfl)) fun a HF => ?_
  refine qg [7] (by kernel_rfl) rfl ?_
  refine all_cons ?_ all_nil
  refine qj HF (i := 7) rfl rfl ?_
  refine e_sa HF HM 1 rfl rfl rfl rfl rfl si_bk rfl rfl (by simp [Value.oneCell']) ?_
  clear HM; intro w1_7 HM
  refine noS (by kernel_rfl) ?_
  refine qn (by kernel_rfl) ?_
  exact ⟨A13, c13, g6, HF.sub (by kernel_rfl), HM.picks [1, 0, 2] (by decide) rfl, hc13⟩
 clear HF HM; rintro a w1 ⟨A13, c13, g6, HF, HM, hc13⟩
 refine wp_seq (wp_seq (qa ?_))
 refine fy HF HM 0 rfl rfl rfl (v := .slice A n c) (Yl.qi rfl rfl (by kernel_rfl) (fun _ h => h.ze hg2 rfl)) fun a HF => ?_
 refine fp HF 1 1 [(16, vI k)] fun a HF => ?_
 refine fy HF HM 2 rfl rfl rfl (v := .slice A k c) (Yl.qbz ei_it (j := k) rfl rfl rfl (by omega)) fun a HF => ?_
 refine fo HF 3 rfl rfl ?_
 refine e_cl HF [.slice A k c] rfl rfl (qhv A k c (l.take k) _ (HM.old (Rd.qqz qbv hr (by omega))) (by rw [List.length_take]; omega) (by omega)) ?_
 rintro _ w18 ⟨⟨A18, c18, rfl, ho, hc18⟩, hbw⟩
 refine ⟨_, rfl, ?_⟩
 replace HM := HM.callRow hbw ho
 clear HF; intro a HF
 refine fy HF HM 4 rfl rfl rfl (Yl.len rfl rfl (by kernel_rfl)) fun a HF => ?_
 refine fp HF 1 5 [(20, vI 0)] fun a HF => ?_
 refine qb rfl ?_
 have hbl : (befI (l.take k)).length = k := by rw [qil, List.length_take]; omega
 refine wp_block ?_
 refine zy (fun mS aS wS => ∃ (j : Nat), (j ≤ k) ∧ mS = k - j ∧ Fr aS 40 [] [(20, vI j), (19, vI k), (18, .slice A18 k c18), (6, vP g6 0), (5, vP g5 0), (0, vI k), (2, vP g2 0), (3, vP g3 0)] ∧ Mem w wS [.row (.slice A18 k c18) k ((befI (l.take k)).map I64i) 3 1, .blk g6 #[vB 1, vB cpu, vI (sumI (befI (l.take j))), vI 0, .slice A13 k c13] 41, .row (.slice A13 k c13) k ((evsI (l.take k)).flatMap evL) 45 11, .blk g5 #[vB 0, vB 0, vI 0, vI 0, .slice none 0 0] 41]) (m := k - 0) ⟨0, Nat.zero_le _, rfl, HF.sub (by kernel_rfl), HM.picks [0, 1, 2, 3] (by decide) rfl⟩ ?_
 clear HF HM; rintro mS a w_ ⟨j, hj, rfl, HF, HM⟩
 refine wp_seq (qa ?_)
 refine fp HF 1 0 [(21, .bool (decide ((j : Int) < (k : Int))))] fun a HF => ?_
 refine qb rfl (wp_seq ?_)
 rcases HF.tf 21 rfl with ⟨hb21, HF⟩ | ⟨hb21, HF⟩
 ·
  have hd21 := of_decide_eq_true hb21
  have hj21 : j < k := by omega
  have ho0 := hG.o0
  have hp0 := hG.part j
  have hp1 := hG.part (j + 1)
  have hps := qgj (l := l) (k := k) (j := j) (by omega) (by omega)
  refine qf HF rfl (wp_skip (wp_seq (wp_block (wp_seq (qa ?_)))))
  obtain ⟨gA18, rfl⟩ := qbp (HM.own (i := 0) rfl) (Nat.lt_of_le_of_lt (Nat.zero_le _) (show j < k from by omega))
  refine fy HF HM 0 rfl rfl rfl (v := vP gA18 (j * 1)) (Yl.ix0 gA18 j 1 rfl rfl rfl) fun a HF => ?_
  refine fy HF HM 1 rfl rfl rfl (v := vI ((befI (l.take k)).getD j 0)) (Yl.qi rfl rfl (by kernel_rfl) (fun _ h => h.qs6 (i := 0) rfl (k := j) (qas (F := I64i) (k := j) (x := ((befI (l.take k)).getD j 0)) ((getD_at 0 (k := j) (by first | omega | (simp; omega))))))) fun a HF => ?_
  refine fp HF 1 2 [(8, vI ((befI (l.take k)).getD j 0))] fun a HF => ?_
  refine qb rfl (qa ?_)
  refine fp HF 1 0 [(24, vP g6 2)] fun a HF => ?_
  refine fy HF HM 1 rfl rfl rfl (Yl.qi rfl rfl (by kernel_rfl) (fun _ h => h.cell (i := 1) rfl rfl)) fun a HF => ?_
  refine fp HF 2 2 [(27, vI (IntKind.i64.wrap ((sumI (befI (l.take j))) + ((befI (l.take k)).getD j 0))))] fun a HF => ?_
  replace HF := HF.sp 27 (vI (sumI (befI (l.take (j + 1))))) rfl (by rw [qgj (k := k) (by omega) (by omega)]; exact qha ⟨by omega, by omega⟩)
  refine fp HF 1 4 [(28, vP g6 2)] fun a HF => ?_
  refine fo HF 5 rfl rfl ?_
  refine qq HF HM (i := 1) rfl rfl rfl rfl (by kernel_rfl) rfl rfl (by simp) ?_
  clear HM; intro w5_5 HM
  refine qb rfl (qa ?_)
  refine fp HF 1 0 [(29, vI (IntKind.i64.wrap ((j : Int) + 1)))] fun a HF => ?_
  replace HF := HF.sp 29 (vI (j + 1 : Nat)) rfl (ql (by omega) (by omega))
  refine fp HF 1 1 [(20, vI (j + 1 : Nat))] fun a HF => ?_
  refine qb rfl ?_
  exact ⟨_, (by omega), j + 1, by omega, rfl, HF.sub (by kernel_rfl), HM.picks [0, 1, 2, 3] (by decide) rfl⟩
 have hd21 := of_decide_eq_false hb21
 obtain rfl : j = k := by omega
 have hp0 := hG.part j
 have ho0 := hG.o0
 refine qe HF rfl (wp_exit (wp_seq (wp_seq (qa ?_))))
 refine fp HF 1 0 [(30, vI j)] fun a HF => ?_
 refine fy HF HM 1 rfl rfl rfl (v := .slice A n c) (Yl.qi rfl rfl (by kernel_rfl) (fun _ h => h.ze hg2 rfl)) fun a HF => ?_
 refine fy HF HM 2 rfl rfl rfl (Yl.len rfl rfl (by kernel_rfl)) fun a HF => ?_
 refine fp HF 1 3 [(33, .bool ((j : Int) == (n : Int)))] fun a HF => ?_
 refine qb rfl ?_
 rcases HF.tf 33 rfl with ⟨hb33, HF⟩ | ⟨hb33, HF⟩
 ·
  have hd33 := eq_of_beq hb33
  have hlo := qt0 (cpu := cpu) (opn := opn) (l := l) (k := j) (by omega)
  refine qf HF rfl (qa ?_)
  refine fp HF 1 0 [(34, vP g6 2)] fun a HF => ?_
  refine fy HF HM 1 rfl rfl rfl (Yl.qi rfl rfl (by kernel_rfl) (fun _ h => h.cell (i := 1) rfl rfl)) fun a HF => ?_
  refine fy HF HM 2 rfl rfl rfl (v := vI opn) (Yl.qi rfl rfl (by kernel_rfl) (fun _ h => h.ze hg3 rfl)) fun a HF => ?_
  refine fp HF 1 3 [(37, vI (IntKind.i64.wrap ((sumI (befI (l.take j))) + opn)))] fun a HF => ?_
  replace HF := HF.sp 37 (vI ((sumI (befI (l.take j))) + opn)) rfl (qha ⟨by omega, by omega⟩)
  refine fp HF 1 4 [(38, vP g6 2)] fun a HF => ?_
  refine fo HF 5 rfl rfl ?_
  refine qq HF HM (i := 1) rfl rfl rfl rfl (by kernel_rfl) rfl rfl (by simp) ?_
  clear HM; intro w8_5 HM
  refine qb rfl (wp_seq (qa ?_))
  refine fy HF HM 0 rfl rfl rfl (v := .agg #[vB 1, vB cpu, vI ((sumI (befI (l.take j))) + opn), vI 0, .slice A13 j c13]) (Yl.zg rfl rfl si_bk rfl (fun _ h => qd (h.blk (i := 1) rfl))) fun a HF => ?_
  refine fo HF 1 rfl rfl ?_
  refine e_sa HF HM 3 rfl rfl rfl rfl rfl si_bk rfl rfl (by simp [Value.oneCell']) ?_
  clear HM; intro w9_1 HM
  refine qb rfl (wp_ret ?_)
  exact ret1 rfl HF (.cellS (i := 3) HF HM rfl rfl si_bk rfl) (⟨⟨A13, c13, by rw [← qj0 (by omega) (by rw [hlo])], by rw [qb9 (by omega)]; exact HM.own (i := 2) rfl, by rw [qb9 (by omega)]; omega⟩, HM.below⟩)
 have hd33 := ne_of_beq_false hb33
 have hlo := qp5 (cpu := cpu) (opn := opn) (l := l) (k := j) (by omega)
 refine qe HF rfl (wp_skip (wp_seq (qa ?_)))
 refine fy HF HM 0 rfl rfl rfl (v := .agg #[vB 1, vB cpu, vI (sumI (befI (l.take j))), vI 0, .slice A13 j c13]) (Yl.zg rfl rfl si_bk rfl (fun _ h => qd (h.blk (i := 1) rfl))) fun a HF => ?_
 refine fo HF 1 rfl rfl ?_
 refine e_sa HF HM 3 rfl rfl rfl rfl rfl si_bk rfl rfl (by simp [Value.oneCell']) ?_
 clear HM; intro w9_1 HM
 refine qb rfl (wp_ret ?_)
 exact ret1 rfl HF (.cellS (i := 3) HF HM rfl rfl si_bk rfl) (⟨⟨A13, c13, by rw [← qj0 (by omega) (by rw [hlo])], by rw [qb9 (by omega)]; exact HM.own (i := 2) rfl, by rw [qb9 (by omega)]; omega⟩, HM.below⟩)
end Go.Proofs.YtfeheccoijnbaaaDoor
