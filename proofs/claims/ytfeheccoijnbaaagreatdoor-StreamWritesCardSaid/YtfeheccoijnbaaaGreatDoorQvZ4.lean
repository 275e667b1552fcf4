/- Parts. -/
import Derived.Test.YtfeheccoijnbaaaGreatDoorQvZ3
set_option linter.all false
set_option maxRecDepth 100000
set_option maxHeartbeats 8000000
namespace Go.Proofs.YtfeheccoijnbaaaGreatDoor
open Go.RowKit
theorem qrf (b : Bk) (hok : b.Ok) (A : Option Addr) (c : Nat) (w : World) (hr : Rd w w.heap.size 11 A b.evs.length (b.evs.flatMap evL)) (hn : b.evs.length ≤ 1000000) :
    Calls Tryz.prog 61 #[.agg (b.cells A c)] w (Is w (.bool b.fits)) := by
 refine qg (vs := [.agg (b.cells A c)]) Tryz.func61 rfl rfl (by kernel_rfl) (σ0 := [(0, .agg (b.cells A c))]) rfl ?_
 intro a HF
 have HM := Mem.start w
 refine wp_seq (qa ?_)
 refine fo HF 0 rfl rfl ?_
 refine e_box HF HM (cs := (b.cells A c)) rfl rfl rfl rfl (by decide) ?_
 clear HF HM; intro a w1 g1 HF HM
 refine fp HF 1 1 [(2, .bool false)] fun a HF => ?_
 refine qb rfl (wp_seq (wp_seq (qa ?_)))
 refine fp HF 1 0 [(6, vP g1 0)] fun a HF => ?_
 refine fy HF HM 1 rfl rfl rfl (v := vB b.kind) (Yl.qh rfl rfl (by kernel_rfl) (fun _ h => h.cell (i := 0) rfl (rfl))) fun a HF => ?_
 refine fp HF 1 2 [(8, .bool ((b.kind : Int) == (2 : Int)))] fun a HF => ?_
 refine qb rfl ?_
 rcases HF.tf 8 rfl with ⟨hb8, HF⟩ | ⟨hb8, HF⟩
 ·
  have hd8 := eq_of_beq hb8
  refine qe HF rfl (wp_seq (qa ?_))
  refine fp HF 1 0 [(9, vP g1 3)] fun a HF => ?_
  refine fy HF HM 1 rfl rfl rfl (v := vI b.next) (Yl.qh rfl rfl (by kernel_rfl) (fun _ h => h.cell (i := 0) rfl (rfl))) fun a HF => ?_
  refine fp HF 2 2 [(12, .bool (decide ((b.next : Int) ≥ (1 : Int))))] fun a HF => ?_
  rcases HF.tf 12 rfl with ⟨hb12, HF⟩ | ⟨hb12, HF⟩
  ·
   have hd12 := of_decide_eq_true hb12
   refine fp HF 1 4 [(13, vP g1 3)] fun a HF => ?_
   refine fy HF HM 5 rfl rfl rfl (v := vI b.next) (Yl.qh rfl rfl (by kernel_rfl) (fun _ h => h.cell (i := 0) rfl (rfl))) fun a HF => ?_
   refine fp HF 3 6 [(17, .bool (decide ((b.next : Int) ≤ (281474976710657 : Int))))] fun a HF => ?_
   rcases HF.tf 17 rfl with ⟨hb17, HF⟩ | ⟨hb17, HF⟩
   ·
    have hd17 := of_decide_eq_true hb17
    refine fp HF 1 9 [(18, vP g1 1)] fun a HF => ?_
    refine fy HF HM 10 rfl rfl rfl (v := vB b.cpu) (Yl.qh rfl rfl (by kernel_rfl) (fun _ h => h.cell (i := 0) rfl (rfl))) fun a HF => ?_
    refine fp HF 3 11 [(22, .bool ((b.cpu : Int) == (0 : Int)))] fun a HF => ?_
    rcases HF.tf 22 rfl with ⟨hb22, HF⟩ | ⟨hb22, HF⟩
    ·
     have hd22 := eq_of_beq hb22
     refine fp HF 1 14 [(23, vP g1 2)] fun a HF => ?_
     refine fy HF HM 15 rfl rfl rfl (v := vI b.lost) (Yl.qh rfl rfl (by kernel_rfl) (fun _ h => h.cell (i := 0) rfl (rfl))) fun a HF => ?_
     refine fp HF 3 16 [(27, .bool ((b.lost : Int) == (0 : Int)))] fun a HF => ?_
     rcases HF.tf 27 rfl with ⟨hb27, HF⟩ | ⟨hb27, HF⟩
     ·
      have hd27 := eq_of_beq hb27
      refine fp HF 1 19 [(28, vP g1 4)] fun a HF => ?_
      refine fy HF HM 20 rfl rfl rfl (v := .slice A b.evs.length c) (Yl.qh rfl rfl (by kernel_rfl) (fun _ h => h.cell (i := 0) rfl (rfl))) fun a HF => ?_
      refine fy HF HM 21 rfl rfl rfl (Yl.len rfl rfl (by kernel_rfl)) fun a HF => ?_
      refine fp HF 3 22 [(2, .bool ((b.evs.length : Int) == (0 : Int)))] fun a HF => ?_
      refine qb rfl (wp_ret ?_)
      exact ret1 rfl HF (.tmp HF rfl) (⟨congrArg (fun x => Ending.returned (.bool x)) (by rw [qfn (by omega), Bool.eq_iff_iff, beq_iff_eq, decide_eq_true_eq]; omega), HM.below⟩)
     have hd27 := ne_of_beq_false hb27
     refine fp HF 6 19 [(2, .bool false)] fun a HF => ?_
     refine qb rfl (wp_ret ?_)
     exact ret1 rfl HF (.tmp HF rfl) (⟨by rw [qfn (by omega), decide_eq_false (by omega)], HM.below⟩)
    have hd22 := ne_of_beq_false hb22
    refine fp HF 11 14 [(2, .bool false)] fun a HF => ?_
    refine qb rfl (wp_ret ?_)
    exact ret1 rfl HF (.tmp HF rfl) (⟨by rw [qfn (by omega), decide_eq_false (by omega)], HM.below⟩)
   have hd17 := of_decide_eq_false hb17
   refine fp HF 16 9 [(2, .bool false)] fun a HF => ?_
   refine qb rfl (wp_ret ?_)
   exact ret1 rfl HF (.tmp HF rfl) (⟨by rw [qfn (by omega), decide_eq_false (by omega)], HM.below⟩)
  have hd12 := of_decide_eq_false hb12
  refine fp HF 21 4 [(2, .bool false)] fun a HF => ?_
  refine qb rfl (wp_ret ?_)
  exact ret1 rfl HF (.tmp HF rfl) (⟨by rw [qfn (by omega), decide_eq_false (by omega)], HM.below⟩)
 have hd8 := ne_of_beq_false hb8
 refine qd HF rfl (wp_skip (wp_seq (wp_seq (qa ?_))))
 refine fp HF 1 0 [(33, vP g1 0)] fun a HF => ?_
 refine fy HF HM 1 rfl rfl rfl (v := vB b.kind) (Yl.qh rfl rfl (by kernel_rfl) (fun _ h => h.cell (i := 0) rfl (rfl))) fun a HF => ?_
 refine fp HF 2 2 [(36, .bool ((b.kind : Int) != (1 : Int)))] fun a HF => ?_
 rcases HF.tf 36 rfl with ⟨hb36, HF⟩ | ⟨hb36, HF⟩
 ·
  have hd36 := bne_iff_ne.1 hb36
  refine fp HF 30 4 [(66, .bool true)] fun a HF => ?_
  refine qb rfl (qe HF rfl (wp_seq (qa ?_)))
  refine fp HF 1 0 [(2, .bool false)] fun a HF => ?_
  refine qb rfl (wp_ret ?_)
  exact ret1 rfl HF (.tmp HF rfl) (⟨by rw [qej (by omega) (by omega)], HM.below⟩)
 have hd36 := bne_eq_false_iff_eq.1 hb36
 refine fp HF 1 4 [(37, vP g1 1)] fun a HF => ?_
 refine fy HF HM 5 rfl rfl rfl (v := vB b.cpu) (Yl.qh rfl rfl (by kernel_rfl) (fun _ h => h.cell (i := 0) rfl (rfl))) fun a HF => ?_
 refine fp HF 3 6 [(41, .bool (decide ((b.cpu : Int) > (63 : Int))))] fun a HF => ?_
 rcases HF.tf 41 rfl with ⟨hb41, HF⟩ | ⟨hb41, HF⟩
 ·
  have hd41 := of_decide_eq_true hb41
  refine fp HF 25 9 [(66, .bool true)] fun a HF => ?_
  refine qb rfl (qe HF rfl (wp_seq (qa ?_)))
  refine fp HF 1 0 [(2, .bool false)] fun a HF => ?_
  refine qb rfl (wp_ret ?_)
  exact ret1 rfl HF (.tmp HF rfl) (⟨by rw [qej (by omega) (by omega)], HM.below⟩)
 have hd41 := of_decide_eq_false hb41
 refine fp HF 1 9 [(42, vP g1 2)] fun a HF => ?_
 refine fy HF HM 10 rfl rfl rfl (v := vI b.lost) (Yl.qh rfl rfl (by kernel_rfl) (fun _ h => h.cell (i := 0) rfl (rfl))) fun a HF => ?_
 refine fp HF 3 11 [(46, .bool (decide ((b.lost : Int) < (0 : Int))))] fun a HF => ?_
 rcases HF.tf 46 rfl with ⟨hb46, HF⟩ | ⟨hb46, HF⟩
 ·
  have hd46 := of_decide_eq_true hb46
  refine fp HF 20 14 [(66, .bool true)] fun a HF => ?_
  refine qb rfl (qe HF rfl (wp_seq (qa ?_)))
  refine fp HF 1 0 [(2, .bool false)] fun a HF => ?_
  refine qb rfl (wp_ret ?_)
  exact ret1 rfl HF (.tmp HF rfl) (⟨by rw [qej (by omega) (by omega)], HM.below⟩)
 have hd46 := of_decide_eq_false hb46
 refine fp HF 1 14 [(47, vP g1 2)] fun a HF => ?_
 refine fy HF HM 15 rfl rfl rfl (v := vI b.lost) (Yl.qh rfl rfl (by kernel_rfl) (fun _ h => h.cell (i := 0) rfl (rfl))) fun a HF => ?_
 refine fp HF 3 16 [(51, .bool (decide ((b.lost : Int) > (281474976710656 : Int))))] fun a HF => ?_
 rcases HF.tf 51 rfl with ⟨hb51, HF⟩ | ⟨hb51, HF⟩
 ·
  have hd51 := of_decide_eq_true hb51
  refine fp HF 15 19 [(66, .bool true)] fun a HF => ?_
  refine qb rfl (qe HF rfl (wp_seq (qa ?_)))
  refine fp HF 1 0 [(2, .bool false)] fun a HF => ?_
  refine qb rfl (wp_ret ?_)
  exact ret1 rfl HF (.tmp HF rfl) (⟨by rw [qej (by omega) (by omega)], HM.below⟩)
 have hd51 := of_decide_eq_false hb51
 refine fp HF 1 19 [(52, vP g1 3)] fun a HF => ?_
 refine fy HF HM 20 rfl rfl rfl (v := vI b.next) (Yl.qh rfl rfl (by kernel_rfl) (fun _ h => h.cell (i := 0) rfl (rfl))) fun a HF => ?_
 refine fp HF 3 21 [(56, .bool ((b.next : Int) != (0 : Int)))] fun a HF => ?_
 rcases HF.tf 56 rfl with ⟨hb56, HF⟩ | ⟨hb56, HF⟩
 ·
  have hd56 := bne_iff_ne.1 hb56
  refine fp HF 10 24 [(66, .bool true)] fun a HF => ?_
  refine qb rfl (qe HF rfl (wp_seq (qa ?_)))
  refine fp HF 1 0 [(2, .bool false)] fun a HF => ?_
  refine qb rfl (wp_ret ?_)
  exact ret1 rfl HF (.tmp HF rfl) (⟨by rw [qej (by omega) (by omega)], HM.below⟩)
 have hd56 := bne_eq_false_iff_eq.1 hb56
 refine fp HF 1 24 [(57, vP g1 2)] fun a HF => ?_
 refine fy HF HM 25 rfl rfl rfl (v := vI b.lost) (Yl.qh rfl rfl (by kernel_rfl) (fun _ h => h.cell (i := 0) rfl (rfl))) fun a HF => ?_
 refine fp HF 2 26 [(60, .bool ((b.lost : Int) == (0 : Int)))] fun a HF => ?_
 rcases HF.tf 60 rfl with ⟨hb60, HF⟩ | ⟨hb60, HF⟩
 ·
  have hd60 := eq_of_beq hb60
  refine fp HF 1 28 [(61, vP g1 4)] fun a HF => ?_
  refine fy HF HM 29 rfl rfl rfl (v := .slice A b.evs.length c) (Yl.qh rfl rfl (by kernel_rfl) (fun _ h => h.cell (i := 0) rfl (rfl))) fun a HF => ?_
  refine fy HF HM 30 rfl rfl rfl (Yl.len rfl rfl (by kernel_rfl)) fun a HF => ?_
  refine fp HF 3 31 [(66, .bool ((b.evs.length : Int) == (0 : Int)))] fun a HF => ?_
  refine qb rfl ?_
  rcases HF.tf 66 rfl with ⟨hb66, HF⟩ | ⟨hb66, HF⟩
  ·
   have hd66 := eq_of_beq hb66
   refine qe HF rfl (wp_seq (qa ?_))
   refine fp HF 1 0 [(2, .bool false)] fun a HF => ?_
   refine qb rfl (wp_ret ?_)
   exact ret1 rfl HF (.tmp HF rfl) (⟨by rw [qej (by omega) (by omega)], HM.below⟩)
  have hd66 := ne_of_beq_false hb66
  refine qd HF rfl (wp_skip (wp_seq (wp_seq (qa ?_))))
  refine fp HF 1 0 [(3, vI 0)] fun a HF => ?_
  refine qb rfl (wp_block ?_)
  refine qs (fun mS aS wS => ∃ (k : Nat), (k ≤ b.evs.length) ∧ (∀ i, i < k → (b.evs.getD i Ev.zero).cpu = b.cpu) ∧ mS = b.evs.length - k ∧ Fr aS 91 [] [(3, vI k), (66, .bool false), (8, .bool false), (2, .bool false), (1, vP g1 0)] ∧ Mem w wS [.blk g1 (b.cells A c) 48]) (m := b.evs.length - 0) ⟨0, Nat.zero_le _, fun i hi => absurd hi (Nat.not_lt_zero _), rfl, HF.sub (by kernel_rfl), HM.picks [0] (by decide) rfl⟩ ?_
  clear HF HM; rintro mS a w_ ⟨k, hk, hall, rfl, HF, HM⟩
  refine wp_seq (wp_seq (qa ?_))
  refine fp HF 2 0 [(68, vP g1 4), (67, vI k)] fun a HF => ?_
  refine fy HF HM 2 rfl rfl rfl (v := .slice A b.evs.length c) (Yl.qh rfl rfl (by kernel_rfl) (fun _ h => h.cell (i := 0) rfl (rfl))) fun a HF => ?_
  refine fy HF HM 3 rfl rfl rfl (Yl.len rfl rfl (by kernel_rfl)) fun a HF => ?_
  refine fp HF 1 4 [(71, .bool (decide ((k : Int) < (b.evs.length : Int))))] fun a HF => ?_
  refine qb rfl ?_
  rcases HF.tf 71 rfl with ⟨hb71, HF⟩ | ⟨hb71, HF⟩
  ·
   have hd71 := of_decide_eq_true hb71
   refine qe HF rfl (wp_skip (wp_seq (wp_block (wp_seq ?_))))
   refine qag HM [.blk g1 (b.cells A c) 48] [0] [] fun HM HS => ?_
   refine ap HF (fun _ => HS) [0, 2, 6] #[true, false, true, false, false, false, true, false, false] [(80, vP g1 1), (76, vI k), (74, vP g1 4)] fun a HF => ?_
   refine ay HF HS 1 rfl rfl rfl (v := .slice A b.evs.length c) (Yl.qh rfl rfl (by kernel_rfl) (fun _ h => h.cell (i := 0) rfl (rfl))) fun a HF => ?_
   obtain ⟨gA, oA, rfl, _⟩ := hr.qy (Nat.lt_of_le_of_lt (Nat.zero_le _) (show k < b.evs.length from by omega)) (by decide)
   refine ay HF HS 3 rfl rfl rfl (v := vP gA (oA + k * 11)) (Yl.ix gA oA k 11 rfl rfl rfl) fun a HF => ?_
   refine ap HF (fun _ => HS) [4] #[true, true, true, true, true, false, true, false, false] [(78, vP gA (oA + k * 11 + 2))] fun a HF => ?_
   refine ay HF HS 5 rfl rfl rfl (v := vB ((b.evs.getD k Ev.zero).cpu)) (Yl.qh rfl rfl (by kernel_rfl) (fun _ h => (h.old hr).partAt zf (k := k) (j := 2) (x := (b.evs.getD k Ev.zero)) ((getD_at Ev.zero (k := k) (by first | omega | (simp; omega)))) rfl)) fun a HF => ?_
   refine ay HF HS 7 rfl rfl rfl (v := vB b.cpu) (Yl.qh rfl rfl (by kernel_rfl) (fun _ h => h.cell (i := 0) rfl (rfl))) fun a HF => ?_
   refine ap HF (fun _ => HS) [8] #[true, true, true, true, true, true, true, true, true] [(82, .bool (((b.evs.getD k Ev.zero).cpu : Int) != (b.cpu : Int)))] fun a HF => ?_
   refine qn (by kernel_rfl) ?_
   rcases HF.tf 82 rfl with ⟨hb82, HF⟩ | ⟨hb82, HF⟩
   ·
    have hd82 := bne_iff_ne.1 hb82
    refine qe HF rfl (wp_seq (qa ?_))
    refine fp HF 1 0 [(2, .bool false)] fun a HF => ?_
    refine qb rfl (wp_ret ?_)
    exact ret1 rfl HF (.tmp HF rfl) (⟨by rw [qpi hok (by omega) (k := k) (by omega) (by omega)], HM.below⟩)
   have hd82 := bne_eq_false_iff_eq.1 hb82
   refine qd HF rfl (wp_skip (qa ?_))
   refine fp HF 2 0 [(73, vI (IntKind.i64.wrap ((k : Int) + 1)))] fun a HF => ?_
   replace HF := HF.sp 73 (vI (k + 1 : Nat)) rfl (qi (by omega) (by omega))
   refine fp HF 1 2 [(3, vI (k + 1 : Nat))] fun a HF => ?_
   refine qb rfl ?_
   exact ⟨_, (by omega), k + 1, by omega, fun i hi => (Nat.lt_succ_iff_lt_or_eq.1 hi).elim (hall i) (fun h => by subst h; omega), rfl, HF.sub (by kernel_rfl), HM.picks [0] (by decide) rfl⟩
  have hd71 := of_decide_eq_false hb71
  refine qd HF rfl (wp_exit (wp_seq (qa ?_)))
  refine fp HF 1 0 [(84, vP g1 4)] fun a HF => ?_
  refine fy HF HM 1 rfl rfl rfl (v := .slice A b.evs.length c) (Yl.qh rfl rfl (by kernel_rfl) (fun _ h => h.cell (i := 0) rfl (rfl))) fun a HF => ?_
  refine fo HF 2 rfl rfl ?_
  refine e_cl HF [.slice A b.evs.length c] rfl rfl (qfr _ _ _ b.evs hok.evs _ (HM.old hr) (by omega) rfl) ?_
  rintro _ w86 ⟨rfl, hbw⟩
  refine ⟨_, rfl, ?_⟩
  replace HM := HM.call hbw
  clear HF; intro a HF
  refine fp HF 5 3 [(5, vI ((rowR b.evs).2))] fun a HF => ?_
  refine qb rfl (wp_seq (qa ?_))
  refine fp HF 3 0 [(2, .bool (((rowR b.evs).2 : Int) == (0 : Int)))] fun a HF => ?_
  refine qb rfl (wp_ret ?_)
  exact ret1 rfl HF (.tmp HF rfl) (⟨congrArg (fun x => Ending.returned (.bool x)) (by rw [qfo (by omega) (by omega) (by omega) (by omega) (by omega) (by omega) (fun i hi => hall i (by omega)), Bool.eq_iff_iff, beq_iff_eq, decide_eq_true_eq]; omega), HM.below⟩)
 have hd60 := ne_of_beq_false hb60
 refine fp HF 6 28 [(66, .bool false)] fun a HF => ?_
 refine qb rfl (qd HF rfl (wp_skip (wp_seq (wp_seq (qa ?_)))))
 refine fp HF 1 0 [(3, vI 0)] fun a HF => ?_
 refine qb rfl (wp_block ?_)
 refine qs (fun mS aS wS => ∃ (k : Nat), (k ≤ b.evs.length) ∧ (∀ i, i < k → (b.evs.getD i Ev.zero).cpu = b.cpu) ∧ mS = b.evs.length - k ∧ Fr aS 91 [] [(3, vI k), (66, .bool false), (8, .bool false), (2, .bool false), (1, vP g1 0)] ∧ Mem w wS [.blk g1 (b.cells A c) 48]) (m := b.evs.length - 0) ⟨0, Nat.zero_le _, fun i hi => absurd hi (Nat.not_lt_zero _), rfl, HF.sub (by kernel_rfl), HM.picks [0] (by decide) rfl⟩ ?_
 clear HF HM; rintro mS a w_ ⟨k, hk, hall, rfl, HF, HM⟩
 refine wp_seq (wp_seq (qa ?_))
 refine fp HF 2 0 [(68, vP g1 4), (67, vI k)] fun a HF => ?_
 refine fy HF HM 2 rfl rfl rfl (v := .slice A b.evs.length c) (Yl.qh rfl rfl (by kernel_rfl) (fun _ h => h.cell (i := 0) rfl (rfl))) fun a HF => ?_
 refine fy HF HM 3 rfl rfl rfl (Yl.len rfl rfl (by kernel_rfl)) fun a HF => ?_
 refine fp HF 1 4 [(71, .bool (decide ((k : Int) < (b.evs.length : Int))))] fun a HF => ?_
 refine qb rfl ?_
 rcases HF.tf 71 rfl with ⟨hb71, HF⟩ | ⟨hb71, HF⟩
 ·
  have hd71 := of_decide_eq_true hb71
  refine qe HF rfl (wp_skip (wp_seq (wp_block (wp_seq ?_))))
  refine qag HM [.blk g1 (b.cells A c) 48] [0] [] fun HM HS => ?_
  refine ap HF (fun _ => HS) [0, 2, 6] #[true, false, true, false, false, false, true, false, false] [(80, vP g1 1), (76, vI k), (74, vP g1 4)] fun a HF => ?_
  refine ay HF HS 1 rfl rfl rfl (v := .slice A b.evs.length c) (Yl.qh rfl rfl (by kernel_rfl) (fun _ h => h.cell (i := 0) rfl (rfl))) fun a HF => ?_
  obtain ⟨gA, oA, rfl, _⟩ := hr.qy (Nat.lt_of_le_of_lt (Nat.zero_le _) (show k < b.evs.length from by omega)) (by decide)
  refine ay HF HS 3 rfl rfl rfl (v := vP gA (oA + k * 11)) (Yl.ix gA oA k 11 rfl rfl rfl) fun a HF => ?_
  refine ap HF (fun _ => HS) [4] #[true, true, true, true, true, false, true, false, false] [(78, vP gA (oA + k * 11 + 2))] fun a HF => ?_
  refine ay HF HS 5 rfl rfl rfl (v := vB ((b.evs.getD k Ev.zero).cpu)) (Yl.qh rfl rfl (by kernel_rfl) (fun _ h => (h.old hr).partAt zf (k := k) (j := 2) (x := (b.evs.getD k Ev.zero)) ((getD_at Ev.zero (k := k) (by first | omega | (simp; omega)))) rfl)) fun a HF => ?_
  refine ay HF HS 7 rfl rfl rfl (v := vB b.cpu) (Yl.qh rfl rfl (by kernel_rfl) (fun _ h => h.cell (i := 0) rfl (rfl))) fun a HF => ?_
  refine ap HF (fun _ => HS) [8] #[true, true, true, true, true, true, true, true, true] [(82, .bool (((b.evs.getD k Ev.zero).cpu : Int) != (b.cpu : Int)))] fun a HF => ?_
  refine qn (by kernel_rfl) ?_
  rcases HF.tf 82 rfl with ⟨hb82, HF⟩ | ⟨hb82, HF⟩
  ·
   have hd82 := bne_iff_ne.1 hb82
   refine qe HF rfl (wp_seq (qa ?_))
   refine fp HF 1 0 [(2, .bool false)] fun a HF => ?_
   refine qb rfl (wp_ret ?_)
   exact ret1 rfl HF (.tmp HF rfl) (⟨by rw [qpi hok (by omega) (k := k) (by omega) (by omega)], HM.below⟩)
  have hd82 := bne_eq_false_iff_eq.1 hb82
  refine qd HF rfl (wp_skip (qa ?_))
  refine fp HF 2 0 [(73, vI (IntKind.i64.wrap ((k : Int) + 1)))] fun a HF => ?_
  replace HF := HF.sp 73 (vI (k + 1 : Nat)) rfl (qi (by omega) (by omega))
  refine fp HF 1 2 [(3, vI (k + 1 : Nat))] fun a HF => ?_
  refine qb rfl ?_
  exact ⟨_, (by omega), k + 1, by omega, fun i hi => (Nat.lt_succ_iff_lt_or_eq.1 hi).elim (hall i) (fun h => by subst h; omega), rfl, HF.sub (by kernel_rfl), HM.picks [0] (by decide) rfl⟩
 have hd71 := of_decide_eq_false hb71
 refine qd HF rfl (wp_exit (wp_seq (qa ?_)))
 refine fp HF 1 0 [(84, vP g1 4)] fun a HF => ?_
 refine fy HF HM 1 rfl rfl rfl (v := .slice A b.evs.length c) (Yl.qh rfl rfl (by kernel_rfl) (fun _ h => h.cell (i := 0) rfl (rfl))) fun a HF => ?_
 refine fo HF 2 rfl rfl ?_
 refine e_cl HF [.slice A b.evs.length c] rfl rfl (qfr _ _ _ b.evs hok.evs _ (HM.old hr) (by omega) rfl) ?_
 rintro _ w86 ⟨rfl, hbw⟩
 refine ⟨_, rfl, ?_⟩
 replace HM := HM.call hbw
 clear HF; intro a HF
 refine fp HF 5 3 [(5, vI ((rowR b.evs).2))] fun a HF => ?_
 refine qb rfl (wp_seq (qa ?_))
 refine fp HF 3 0 [(2, .bool (((rowR b.evs).2 : Int) == (0 : Int)))] fun a HF => ?_
 refine qb rfl (wp_ret ?_)
 exact ret1 rfl HF (.tmp HF rfl) (⟨congrArg (fun x => Ending.returned (.bool x)) (by rw [qfo (by omega) (by omega) (by omega) (by omega) (by omega) (by omega) (fun i hi => hall i (by omega)), Bool.eq_iff_iff, beq_iff_eq, decide_eq_true_eq]; omega), HM.below⟩)
theorem qil (b : Bk) (hok : b.Ok) (A : Option Addr) (c : Nat) (w : World) (hr : Rd w w.heap.size 11 A b.evs.length (b.evs.flatMap evL)) (hn : b.evs.length ≤ 1000000) (hf : b.fits = true) :
    Calls Tryz.prog 42 #[.agg (b.cells A c)] w (qad w b.raw) := by
 refine qg (vs := [.agg (b.cells A c)]) Tryz.func42 rfl rfl (by kernel_rfl) (σ0 := [(0, .agg (b.cells A c))]) rfl ?_
 intro a HF
 have HM := Mem.start w
 refine wp_seq (qa ?_)
 refine fo HF 0 rfl rfl ?_
 refine e_box HF HM (cs := (b.cells A c)) rfl rfl rfl rfl (by decide) ?_
 clear HF HM; intro a w1 g1 HF HM
 refine fp HF 1 1 [(2, .slice none 0 0)] fun a HF => ?_
 refine qb rfl ?_
 have hbl := qbt b
 refine wp_seq (qa ?_)
 refine fp HF 1 0 [(3, .slice none 0 0)] fun a HF => ?_
 refine qb rfl (wp_seq (wp_seq (qa ?_)))
 refine fp HF 1 0 [(9, vP g1 0)] fun a HF => ?_
 refine fy HF HM 1 rfl rfl rfl (v := vB b.kind) (Yl.qh rfl rfl (by kernel_rfl) (fun _ h => h.cell (i := 0) rfl (rfl))) fun a HF => ?_
 refine fp HF 1 2 [(11, .bool ((b.kind : Int) == (2 : Int)))] fun a HF => ?_
 refine qb rfl ?_
 rcases HF.tf 11 rfl with ⟨hb11, HF⟩ | ⟨hb11, HF⟩
 ·
  have hd11 := eq_of_beq hb11
  have hk2 : b.kind = 2 := by omega
  obtain ⟨n1, n2, n3, n4, n5⟩ := qhw hf hk2
  refine qe HF rfl (qa ?_)
  refine fp HF 1 0 [(12, vP g1 3)] fun a HF => ?_
  refine fy HF HM 1 rfl rfl rfl (v := vI b.next) (Yl.qh rfl rfl (by kernel_rfl) (fun _ h => h.cell (i := 0) rfl (rfl))) fun a HF => ?_
  refine fp HF 1 2 [(14, vQ (IntKind.u64.wrap b.next))] fun a HF => ?_
  replace HF := HF.sp 14 (vQ b.next.toNat) rfl (qaj (by omega) (by omega))
  refine fo HF 3 rfl rfl ?_
  refine e_cl HF [vQ b.next.toNat] rfl rfl (qj3 b.next.toNat _ (by omega)) ?_
  rintro _ w15 ⟨⟨A15, c15, rfl, ho, hc15⟩, hbw⟩
  refine ⟨_, rfl, ?_⟩
  replace HM := HM.callRow hbw ho
  clear HF; intro a HF
  refine fp HF 1 4 [(3, .slice A15 (((vbytes b.next.toNat)).length) c15)] fun a HF => ?_
  refine qb rfl ?_
  refine qax (fun aS wS => ∃ (Ax : Option Addr) (cx : Nat), (b.body.length ≤ cx) ∧ Fr aS 83 [] [(3, .slice Ax b.body.length cx), (2, .slice none 0 0), (1, vP g1 0)] ∧ Mem w wS [.row (.slice Ax b.body.length cx) b.body.length (b.body.map B8) 5 1, .blk g1 (b.cells A c) 48]) ?_ ?_
  ·
   refine wp_seq (qa ?_)
   refine fp HF 1 0 [(28, vP g1 4)] fun a HF => ?_
   refine fy HF HM 1 rfl rfl rfl (v := .slice A b.evs.length c) (Yl.qh rfl rfl (by kernel_rfl) (fun _ h => h.cell (i := 1) rfl (rfl))) fun a HF => ?_
   refine fy HF HM 2 rfl rfl rfl (Yl.len rfl rfl (by kernel_rfl)) fun a HF => ?_
   refine fp HF 1 3 [(31, .bool (decide ((b.evs.length : Int) > (0 : Int))))] fun a HF => ?_
   refine qb rfl ?_
   have hb31 : (decide ((b.evs.length : Int) > (0 : Int))) = false := by rw [decide_eq_false (by omega)]
   have HF := HF.as (t := 31) (u := .bool false) rfl (by rw [hb31])
   have hnA15 : ((vbytes b.next.toNat)).length = b.body.length := by rw [qpu hk2]
   replace HM := HM.reRow (i := 0) (ys := b.body.map B8) rfl hnA15 (by rw [qpu hk2])
   replace HF := HF.as (t := 3) (u := .slice A15 b.body.length c15) rfl (by rw [hnA15])
   refine qd HF rfl (wp_skip ?_)
   exact ⟨A15, c15, by omega, HF.sub (by kernel_rfl), HM.picks [0, 1] (by decide) rfl⟩
  clear HF HM; rintro a w9 ⟨Ax, cx, hcx, HF, HM⟩
  refine wp_seq (qa ?_)
  refine fp HF 1 0 [(60, .slice Ax b.body.length cx)] fun a HF => ?_
  refine fy HF HM 1 rfl rfl rfl (Yl.len rfl rfl (by kernel_rfl)) fun a HF => ?_
  refine fp HF 1 2 [(62, vI (IntKind.i64.wrap ((b.body.length : Int) + 12)))] fun a HF => ?_
  replace HF := HF.sp 62 (vI (b.body.length + 12 : Nat)) rfl (qi (by omega) (by omega))
  refine fp HF 1 3 [(7, vI (b.body.length + 12 : Nat))] fun a HF => ?_
  refine qb rfl ?_
  have hbl := qbt b
  refine wp_seq (qa ?_)
  refine fp HF 2 0 [(64, vI (Int.tmod ((b.body.length + 12 : Nat) : Int) 256))] fun a HF => ?_
  replace HF := HF.sp 64 (vI ((b.body.length + 12) % 256 : Nat)) rfl (qap .i64 _ 256)
  refine fp HF 1 2 [(65, vB (IntKind.u8.wrap (((b.body.length + 12) % 256 : Nat) : Int)))] fun a HF => ?_
  replace HF := HF.sp 65 (vB ((b.body.length + 12) % 256 : Nat)) rfl ((qbi ((b.body.length + 12) % 256)).trans (by rw [Nat.mod_mod]))
  refine fp HF 2 3 [(67, vI (IntKind.i64.wrap (Int.tdiv ((b.body.length + 12 : Nat) : Int) 256)))] fun a HF => ?_
  replace HF := HF.sp 67 (vI ((b.body.length + 12) / 256 : Nat)) rfl (qbj .i64 256 (by show _ ≤ 9223372036854775807; omega))
  refine fp HF 1 5 [(68, vI (Int.tmod (((b.body.length + 12) / 256 : Nat) : Int) 256))] fun a HF => ?_
  replace HF := HF.sp 68 (vI (((b.body.length + 12) / 256) % 256 : Nat)) rfl (qap .i64 _ 256)
  refine fp HF 1 6 [(69, vB (IntKind.u8.wrap ((((b.body.length + 12) / 256) % 256 : Nat) : Int)))] fun a HF => ?_
  replace HF := HF.sp 69 (vB (((b.body.length + 12) / 256) % 256 : Nat)) rfl ((qbi (((b.body.length + 12) / 256) % 256)).trans (by rw [Nat.mod_mod]))
  refine fp HF 2 7 [(71, vI (IntKind.i64.wrap (Int.tdiv ((b.body.length + 12 : Nat) : Int) 65536)))] fun a HF => ?_
  replace HF := HF.sp 71 (vI ((b.body.length + 12) / 65536 : Nat)) rfl (qbj .i64 65536 (by show _ ≤ 9223372036854775807; omega))
  refine fp HF 1 9 [(72, vI (Int.tmod (((b.body.length + 12) / 65536 : Nat) : Int) 256))] fun a HF => ?_
  replace HF := HF.sp 72 (vI (((b.body.length + 12) / 65536) % 256 : Nat)) rfl (qap .i64 _ 256)
  refine fp HF 1 10 [(73, vB (IntKind.u8.wrap ((((b.body.length + 12) / 65536) % 256 : Nat) : Int)))] fun a HF => ?_
  replace HF := HF.sp 73 (vB (((b.body.length + 12) / 65536) % 256 : Nat)) rfl ((qbi (((b.body.length + 12) / 65536) % 256)).trans (by rw [Nat.mod_mod]))
  refine fp HF 2 11 [(75, vI (IntKind.i64.wrap (Int.tdiv ((b.body.length + 12 : Nat) : Int) 16777216)))] fun a HF => ?_
  replace HF := HF.sp 75 (vI ((b.body.length + 12) / 16777216 : Nat)) rfl (qbj .i64 16777216 (by show _ ≤ 9223372036854775807; omega))
  refine fp HF 1 13 [(76, vB (IntKind.u8.wrap (((b.body.length + 12) / 16777216 : Nat) : Int)))] fun a HF => ?_
  replace HF := HF.sp 76 (vB (((b.body.length + 12) / 16777216) % 256 : Nat)) rfl (qbi ((b.body.length + 12) / 16777216))
  refine fp HF 1 14 [(77, vP g1 0)] fun a HF => ?_
  refine fy HF HM 15 rfl rfl rfl (v := vB b.kind) (Yl.qh rfl rfl (by kernel_rfl) (fun _ h => h.cell (i := 1) rfl (rfl))) fun a HF => ?_
  refine fo HF 16 rfl rfl ?_
  refine ze HF HM (vs := [(0, vB ((b.body.length + 12) % 256 : Nat)), (1, vB (((b.body.length + 12) / 256) % 256 : Nat)), (2, vB (((b.body.length + 12) / 65536) % 256 : Nat)), (3, vB (((b.body.length + 12) / 16777216) % 256 : Nat)), (4, vB 113), (5, vB 116), (6, vB 1), (7, vB b.kind)]) (cs := #[vB ((b.body.length + 12) % 256 : Nat), vB (((b.body.length + 12) / 256) % 256 : Nat), vB (((b.body.length + 12) / 65536) % 256 : Nat), vB (((b.body.length + 12) / 16777216) % 256 : Nat), vB 113, vB 116, vB 1, vB b.kind]) rfl ei_u8 (by decide) rfl (by kernel_rfl) rfl (by decide) ?_
  clear HF HM; intro a w79 g79 HF HM
  refine fp HF 1 17 [(8, vS g79 8 8)] fun a HF => ?_
  refine qb rfl (wp_seq (qa ?_))
  refine fp HF 2 0 [(81, .slice Ax b.body.length cx), (80, vS g79 8 8)] fun a HF => ?_
  refine fo HF 2 rfl rfl ?_
  replace HM := HM.blkRow (i := 0) (n := 8) (size := 1) rfl rfl (by decide)
  refine qu HF HM (i := 0) rfl ei_u8 rfl rfl rfl (news := (b.body.map B8)) (HM.rd (i := 1) rfl) (qa2 _) (by omega) (by omega) rfl (by decide) ?_
  clear HF HM; intro a w82 A82 c82 HF HM hc82
  refine fp HF 1 3 [(2, .slice A82 (8 + b.body.length) c82)] fun a HF => ?_
  refine qb rfl ?_
  have hnA82 : 8 + b.body.length = b.raw.length := by rw [qcj]
  replace HM := HM.reRow (i := 0) (ys := b.raw.map B8) rfl hnA82 (raw10 b)
  rw [hnA82] at hc82
  replace HF := HF.as (t := 2) (u := .slice A82 b.raw.length c82) rfl (by rw [hnA82])
  replace HF := HF.as (t := 82) (u := .slice A82 b.raw.length c82) rfl (by rw [hnA82])
  refine wp_ret ?_
  exact ret1 rfl HF (.tmp HF rfl) (⟨⟨_, _, rfl, HM.own (i := 0) rfl, hc82⟩, HM.below⟩)
 have hd11 := ne_of_beq_false hb11
 have hk2 : b.kind ≠ 2 := by omega
 obtain ⟨m0, m1, m2, m3, m4⟩ := qhv hf hk2
 refine qd HF rfl (qa ?_)
 refine fp HF 1 0 [(16, vP g1 1)] fun a HF => ?_
 refine fy HF HM 1 rfl rfl rfl (v := vB b.cpu) (Yl.qh rfl rfl (by kernel_rfl) (fun _ h => h.cell (i := 0) rfl (rfl))) fun a HF => ?_
 refine fp HF 1 2 [(18, vQ (IntKind.u64.wrap (b.cpu : Int)))] fun a HF => ?_
 replace HF := HF.sp 18 (vQ b.cpu) rfl (qaj rfl (by omega))
 refine fp HF 1 3 [(19, vP g1 2)] fun a HF => ?_
 refine fy HF HM 4 rfl rfl rfl (v := vI b.lost) (Yl.qh rfl rfl (by kernel_rfl) (fun _ h => h.cell (i := 0) rfl (rfl))) fun a HF => ?_
 refine fp HF 1 5 [(21, vQ (IntKind.u64.wrap b.lost))] fun a HF => ?_
 replace HF := HF.sp 21 (vQ b.lost.toNat) rfl (qaj (by omega) (by omega))
 refine fp HF 1 6 [(22, vP g1 4)] fun a HF => ?_
 refine fy HF HM 7 rfl rfl rfl (v := .slice A b.evs.length c) (Yl.qh rfl rfl (by kernel_rfl) (fun _ h => h.cell (i := 0) rfl (rfl))) fun a HF => ?_
 refine fy HF HM 8 rfl rfl rfl (Yl.len rfl rfl (by kernel_rfl)) fun a HF => ?_
 refine fp HF 1 9 [(25, vQ (IntKind.u64.wrap (b.evs.length : Int)))] fun a HF => ?_
 replace HF := HF.sp 25 (vQ b.evs.length) rfl (qaj rfl (by omega))
 refine fo HF 10 rfl rfl ?_
 refine ze HF HM (vs := [(0, vQ b.cpu), (1, vQ b.lost.toNat), (2, vQ b.evs.length)]) (cs := #[vQ b.cpu, vQ b.lost.toNat, vQ b.evs.length]) rfl qgm (by decide) rfl (by kernel_rfl) rfl (by decide) ?_
 clear HF HM; intro a w26 g26 HF HM
 refine fo HF 11 rfl rfl ?_
 refine e_cl HF [vS g26 3 3] rfl rfl (qj4 _ 3 _ [b.cpu, b.lost.toNat, b.evs.length] _ (HM.rdBlk (i := 0) (n := 3) (size := 1) rfl rfl) rfl (by intro x hx; simp only [List.mem_cons, List.not_mem_nil, or_false] at hx; omega) (by omega)) ?_
 rintro _ w27 ⟨⟨A27, c27, rfl, ho, hc27⟩, hbw⟩
 refine ⟨_, rfl, ?_⟩
 replace HM := HM.callRow hbw ho
 clear HF; intro a HF
 have hfl27 := qao [b.cpu, b.lost.toNat, b.evs.length]
 simp only [List.length_cons, List.length_nil] at hfl27
 refine fp HF 1 12 [(3, .slice A27 ((([b.cpu, b.lost.toNat, b.evs.length].flatMap vbytes)).length) c27)] fun a HF => ?_
 refine qb rfl ?_
 refine qax (fun aS wS => ∃ (Ax : Option Addr) (cx : Nat), (b.body.length ≤ cx) ∧ Fr aS 83 [] [(3, .slice Ax b.body.length cx), (2, .slice none 0 0), (1, vP g1 0)] ∧ Mem w wS [.row (.slice Ax b.body.length cx) b.body.length (b.body.map B8) 5 1, .blk g1 (b.cells A c) 48]) ?_ ?_
 ·
  refine wp_seq (qa ?_)
  refine fp HF 1 0 [(28, vP g1 4)] fun a HF => ?_
  refine fy HF HM 1 rfl rfl rfl (v := .slice A b.evs.length c) (Yl.qh rfl rfl (by kernel_rfl) (fun _ h => h.cell (i := 2) rfl (rfl))) fun a HF => ?_
  refine fy HF HM 2 rfl rfl rfl (Yl.len rfl rfl (by kernel_rfl)) fun a HF => ?_
  refine fp HF 1 3 [(31, .bool (decide ((b.evs.length : Int) > (0 : Int))))] fun a HF => ?_
  refine qb rfl ?_
  rcases HF.tf 31 rfl with ⟨hb31, HF⟩ | ⟨hb31, HF⟩
  ·
   have hd31 := of_decide_eq_true hb31
   obtain ⟨b1, b2, b3, b4⟩ : 0 ≤ (b.evs.getD 0 Ev.zero).seq ∧ (b.evs.getD 0 Ev.zero).seq ≤ 281474976710656 ∧ 0 ≤ (b.evs.getD 0 Ev.zero).time ∧ (b.evs.getD 0 Ev.zero).time ≤ 281474976710656 := by have hbd := qku hok hf hk2 (by omega); rw [qd6] at hbd; exact hbd
   have hw07 := qjg hok (qeg hf hk2).2 (by omega)
   refine qe HF rfl (wp_seq (qa ?_))
   refine fp HF 1 0 [(32, vP g1 4)] fun a HF => ?_
   refine fy HF HM 1 rfl rfl rfl (v := .slice A b.evs.length c) (Yl.qh rfl rfl (by kernel_rfl) (fun _ h => h.cell (i := 2) rfl (rfl))) fun a HF => ?_
   obtain ⟨gA, oA, rfl, _⟩ := hr.qy (Nat.lt_of_le_of_lt (Nat.zero_le _) (show 0 < b.evs.length from by omega)) (by decide)
   refine fy HF HM 2 rfl rfl rfl (v := vP gA oA) (Yl.indexAddr (ad := ⟨gA, oA, none⟩) (y := 0) (sz := 11) rfl rfl rfl (by omega) (by kernel_rfl)) fun a HF => ?_
   refine fy HF HM 3 rfl rfl rfl (v := .agg ((b.evs.getD 0 Ev.zero).cells)) (Yl.zc rfl rfl ⟨(by kernel_rfl), (by kernel_rfl)⟩ rfl (fun _ h => (h.old hr).zt zf ((getD_at Ev.zero (k := 0) (by first | omega | (simp; omega)))))) fun a HF => ?_
   refine fo HF 4 rfl rfl ?_
   refine qt HF HM (cs := #[vI 0, vI 0, vB 0, vB 0, vI 0, vI 0, vI 0, vI 0, vI 0, vQ 0, vI 0]) rfl (by kernel_rfl) rfl (by decide) ?_
   clear HF HM; intro a w4 g4 HF HM
   refine fo HF 5 rfl rfl ?_
   refine e_sa HF HM 0 rfl rfl rfl rfl rfl ⟨(by kernel_rfl), (by kernel_rfl)⟩ rfl rfl (qan (b.evs.getD 0 Ev.zero)) ?_
   clear HM; intro w6_5 HM
   refine qb rfl (wp_seq (qa ?_))
   refine fp HF 2 0 [(37, vP g4 0), (36, .slice A27 ((([b.cpu, b.lost.toNat, b.evs.length].flatMap vbytes)).length) c27)] fun a HF => ?_
   refine fy HF HM 2 rfl rfl rfl (v := vI ((b.evs.getD 0 Ev.zero).seq)) (Yl.qh rfl rfl (by kernel_rfl) (fun _ h => h.cell (i := 0) rfl (rfl))) fun a HF => ?_
   refine fp HF 1 3 [(39, vQ (IntKind.u64.wrap ((b.evs.getD 0 Ev.zero).seq)))] fun a HF => ?_
   replace HF := HF.sp 39 (vQ (((b.evs.getD 0 Ev.zero).seq).toNat : Nat)) rfl (qaj (by omega) (by omega))
   refine fp HF 1 4 [(40, vP g4 1)] fun a HF => ?_
   refine fy HF HM 5 rfl rfl rfl (v := vI ((b.evs.getD 0 Ev.zero).time)) (Yl.qh rfl rfl (by kernel_rfl) (fun _ h => h.cell (i := 0) rfl (rfl))) fun a HF => ?_
   refine fp HF 1 6 [(42, vQ (IntKind.u64.wrap ((b.evs.getD 0 Ev.zero).time)))] fun a HF => ?_
   replace HF := HF.sp 42 (vQ (((b.evs.getD 0 Ev.zero).time).toNat : Nat)) rfl (qaj (by omega) (by omega))
   refine fo HF 7 rfl rfl ?_
   refine ze HF HM (vs := [(0, vQ (((b.evs.getD 0 Ev.zero).seq).toNat : Nat)), (1, vQ (((b.evs.getD 0 Ev.zero).time).toNat : Nat))]) (cs := #[vQ (((b.evs.getD 0 Ev.zero).seq).toNat : Nat), vQ (((b.evs.getD 0 Ev.zero).time).toNat : Nat)]) rfl qgm (by decide) rfl (by kernel_rfl) rfl (by decide) ?_
   clear HF HM; intro a w43 g43 HF HM
   refine fo HF 8 rfl rfl ?_
   refine e_cl HF [vS g43 2 2] rfl rfl (qj4 _ 2 _ [(b.evs.getD 0 Ev.zero).seq.toNat, (b.evs.getD 0 Ev.zero).time.toNat] _ (HM.rdBlk (i := 0) (n := 2) (size := 1) rfl rfl) rfl (by intro x hx; simp only [List.mem_cons, List.not_mem_nil, or_false] at hx; omega) (by omega)) ?_
   rintro _ w44 ⟨⟨A44, c44, rfl, ho, hc44⟩, hbw⟩
   refine ⟨_, rfl, ?_⟩
   replace HM := HM.callRow hbw ho
   clear HF; intro a HF
   have hfl44 := qao [(b.evs.getD 0 Ev.zero).seq.toNat, (b.evs.getD 0 Ev.zero).time.toNat]
   simp only [List.length_cons, List.length_nil] at hfl44
   refine fo HF 9 rfl rfl ?_
   refine qu HF HM (i := 3) rfl ei_u8 rfl rfl rfl (news := (([(b.evs.getD 0 Ev.zero).seq.toNat, (b.evs.getD 0 Ev.zero).time.toNat].flatMap vbytes).map B8)) (HM.rd (i := 0) rfl) (qa2 _) (by omega) (by omega) rfl (by decide) ?_
   clear HF HM; intro a w45 A45 c45 HF HM hc45
   refine fp HF 1 10 [(3, .slice A45 (((([b.cpu, b.lost.toNat, b.evs.length].flatMap vbytes)).length) + ((([(b.evs.getD 0 Ev.zero).seq.toNat, (b.evs.getD 0 Ev.zero).time.toNat].flatMap vbytes)).length)) c45)] fun a HF => ?_
   refine qb rfl ?_
   replace HM := HM.picks (fs' := [.blk g4 ((b.evs.getD 0 Ev.zero).cells) 112, .row (.slice A45 (((([b.cpu, b.lost.toNat, b.evs.length].flatMap vbytes)).length) + ((([(b.evs.getD 0 Ev.zero).seq.toNat, (b.evs.getD 0 Ev.zero).time.toNat].flatMap vbytes)).length)) c45) (((([b.cpu, b.lost.toNat, b.evs.length].flatMap vbytes)).length) + ((([(b.evs.getD 0 Ev.zero).seq.toNat, (b.evs.getD 0 Ev.zero).time.toNat].flatMap vbytes)).length)) ((([b.cpu, b.lost.toNat, b.evs.length].flatMap vbytes).map B8) ++ (([(b.evs.getD 0 Ev.zero).seq.toNat, (b.evs.getD 0 Ev.zero).time.toNat].flatMap vbytes).map B8)) 5 1, .blk g1 (b.cells (some ⟨gA, oA, none⟩) c) 48]) [2, 3, 5] (by decide) rfl
   refine wp_seq (qa ?_)
   refine fp HF 1 0 [(47, vP g4 0)] fun a HF => ?_
   refine fy HF HM 1 rfl rfl rfl (v := vI ((b.evs.getD 0 Ev.zero).seq)) (Yl.qh rfl rfl (by kernel_rfl) (fun _ h => h.cell (i := 0) rfl (rfl))) fun a HF => ?_
   refine fp HF 1 2 [(49, vP g4 1)] fun a HF => ?_
   refine fy HF HM 3 rfl rfl rfl (v := vI ((b.evs.getD 0 Ev.zero).time)) (Yl.qh rfl rfl (by kernel_rfl) (fun _ h => h.cell (i := 0) rfl (rfl))) fun a HF => ?_
   refine fy HF HM 4 rfl rfl rfl (v := .agg ((⟨(b.evs.getD 0 Ev.zero).seq, (b.evs.getD 0 Ev.zero).time⟩ : Bs).cells)) ((Yl.build (vs := [(0, vI ((b.evs.getD 0 Ev.zero).seq)), (1, vI ((b.evs.getD 0 Ev.zero).time))]) rfl (by kernel_rfl) (by kernel_rfl))) fun a HF => ?_
   refine fp HF 1 5 [(52, vP g1 4)] fun a HF => ?_
   refine fy HF HM 6 rfl rfl rfl (v := .slice (some ⟨gA, oA, none⟩) b.evs.length c) (Yl.qh rfl rfl (by kernel_rfl) (fun _ h => h.cell (i := 2) rfl (rfl))) fun a HF => ?_
   refine fo HF 7 rfl rfl ?_
   refine e_cl HF [.agg ((⟨(b.evs.getD 0 Ev.zero).seq, (b.evs.getD 0 Ev.zero).time⟩ : Bs).cells), .slice (some ⟨gA, oA, none⟩) b.evs.length c] rfl rfl ((qop ⟨(b.evs.getD 0 Ev.zero).seq, (b.evs.getD 0 Ev.zero).time⟩ _ _ _ b.evs hok.evs _ (HM.old hr) (by omega) (by omega) rfl).mono (fun _ _ h => h.as (er' := 0) (R' := recs b.base b.evs) (by rw [← qd6]; exact hw07.1) (by rw [← qd6]; exact hw07.2))) ?_
   rintro _ w54 ⟨⟨A54, c54, rfl, ho, hc54⟩, hbw⟩
   refine ⟨_, rfl, ?_⟩
   replace HM := HM.callRow hbw ho
   clear HF; intro a HF
   have hrl := qfk b.evs b.base
   refine fp HF 5 8 [(5, .slice A54 (((recs b.base b.evs)).length) c54)] fun a HF => ?_
   refine qb rfl (qa ?_)
   refine fp HF 2 0 [(58, .slice A54 (((recs b.base b.evs)).length) c54), (57, .slice A45 (((([b.cpu, b.lost.toNat, b.evs.length].flatMap vbytes)).length) + ((([(b.evs.getD 0 Ev.zero).seq.toNat, (b.evs.getD 0 Ev.zero).time.toNat].flatMap vbytes)).length)) c45)] fun a HF => ?_
   refine fo HF 2 rfl rfl ?_
   refine qu HF HM (i := 2) rfl ei_u8 rfl rfl rfl (news := ((recs b.base b.evs).map B8)) (HM.rd (i := 0) rfl) (qa2 _) (by omega) (by omega) rfl (by decide) ?_
   clear HF HM; intro a w59 A59 c59 HF HM hc59
   refine fp HF 1 3 [(3, .slice A59 ((((([b.cpu, b.lost.toNat, b.evs.length].flatMap vbytes)).length) + ((([(b.evs.getD 0 Ev.zero).seq.toNat, (b.evs.getD 0 Ev.zero).time.toNat].flatMap vbytes)).length)) + (((recs b.base b.evs)).length)) c59)] fun a HF => ?_
   refine qb rfl ?_
   have hnA59 : (((([b.cpu, b.lost.toNat, b.evs.length].flatMap vbytes)).length) + ((([(b.evs.getD 0 Ev.zero).seq.toNat, (b.evs.getD 0 Ev.zero).time.toNat].flatMap vbytes)).length)) + (((recs b.base b.evs)).length) = b.body.length := by have h := congrArg List.length (qm6 hk2 (by omega)); rw [List.length_append, List.length_append] at h; omega
   replace HM := HM.reRow (i := 2) (ys := b.body.map B8) rfl hnA59 (by rw [← qm6 hk2 (by omega)]; simp)
   rw [hnA59] at hc59
   replace HF := HF.as (t := 3) (u := .slice A59 b.body.length c59) rfl (by rw [hnA59])
   replace HF := HF.as (t := 59) (u := .slice A59 b.body.length c59) rfl (by rw [hnA59])
   exact ⟨A59, c59, by omega, HF.sub (by kernel_rfl), HM.picks [2, 3] (by decide) rfl⟩
  have hd31 := of_decide_eq_false hb31
  have hnA27 : (([b.cpu, b.lost.toNat, b.evs.length].flatMap vbytes)).length = b.body.length := by rw [qm5 hk2 (by omega)]
  replace HM := HM.reRow (i := 0) (ys := b.body.map B8) rfl hnA27 (by rw [qm5 hk2 (by omega)])
  replace HF := HF.as (t := 3) (u := .slice A27 b.body.length c27) rfl (by rw [hnA27])
  refine qd HF rfl (wp_skip ?_)
  exact ⟨A27, c27, by omega, HF.sub (by kernel_rfl), HM.picks [0, 2] (by decide) rfl⟩
 clear HF HM; rintro a w9 ⟨Ax, cx, hcx, HF, HM⟩
 refine wp_seq (qa ?_)
 refine fp HF 1 0 [(60, .slice Ax b.body.length cx)] fun a HF => ?_
 refine fy HF HM 1 rfl rfl rfl (Yl.len rfl rfl (by kernel_rfl)) fun a HF => ?_
 refine fp HF 1 2 [(62, vI (IntKind.i64.wrap ((b.body.length : Int) + 12)))] fun a HF => ?_
 replace HF := HF.sp 62 (vI (b.body.length + 12 : Nat)) rfl (qi (by omega) (by omega))
 refine fp HF 1 3 [(7, vI (b.body.length + 12 : Nat))] fun a HF => ?_
 refine qb rfl ?_
 have hbl := qbt b
 refine wp_seq (qa ?_)
 refine fp HF 2 0 [(64, vI (Int.tmod ((b.body.length + 12 : Nat) : Int) 256))] fun a HF => ?_
 replace HF := HF.sp 64 (vI ((b.body.length + 12) % 256 : Nat)) rfl (qap .i64 _ 256)
 refine fp HF 1 2 [(65, vB (IntKind.u8.wrap (((b.body.length + 12) % 256 : Nat) : Int)))] fun a HF => ?_
 replace HF := HF.sp 65 (vB ((b.body.length + 12) % 256 : Nat)) rfl ((qbi ((b.body.length + 12) % 256)).trans (by rw [Nat.mod_mod]))
 refine fp HF 2 3 [(67, vI (IntKind.i64.wrap (Int.tdiv ((b.body.length + 12 : Nat) : Int) 256)))] fun a HF => ?_
 replace HF := HF.sp 67 (vI ((b.body.length + 12) / 256 : Nat)) rfl (qbj .i64 256 (by show _ ≤ 9223372036854775807; omega))
 refine fp HF 1 5 [(68, vI (Int.tmod (((b.body.length + 12) / 256 : Nat) : Int) 256))] fun a HF => ?_
 replace HF := HF.sp 68 (vI (((b.body.length + 12) / 256) % 256 : Nat)) rfl (qap .i64 _ 256)
 refine fp HF 1 6 [(69, vB (IntKind.u8.wrap ((((b.body.length + 12) / 256) % 256 : Nat) : Int)))] fun a HF => ?_
 replace HF := HF.sp 69 (vB (((b.body.length + 12) / 256) % 256 : Nat)) rfl ((qbi (((b.body.length + 12) / 256) % 256)).trans (by rw [Nat.mod_mod]))
 refine fp HF 2 7 [(71, vI (IntKind.i64.wrap (Int.tdiv ((b.body.length + 12 : Nat) : Int) 65536)))] fun a HF => ?_
 replace HF := HF.sp 71 (vI ((b.body.length + 12) / 65536 : Nat)) rfl (qbj .i64 65536 (by show _ ≤ 9223372036854775807; omega))
 refine fp HF 1 9 [(72, vI (Int.tmod (((b.body.length + 12) / 65536 : Nat) : Int) 256))] fun a HF => ?_
 replace HF := HF.sp 72 (vI (((b.body.length + 12) / 65536) % 256 : Nat)) rfl (qap .i64 _ 256)
 refine fp HF 1 10 [(73, vB (IntKind.u8.wrap ((((b.body.length + 12) / 65536) % 256 : Nat) : Int)))] fun a HF => ?_
 replace HF := HF.sp 73 (vB (((b.body.length + 12) / 65536) % 256 : Nat)) rfl ((qbi (((b.body.length + 12) / 65536) % 256)).trans (by rw [Nat.mod_mod]))
 refine fp HF 2 11 [(75, vI (IntKind.i64.wrap (Int.tdiv ((b.body.length + 12 : Nat) : Int) 16777216)))] fun a HF => ?_
 replace HF := HF.sp 75 (vI ((b.body.length + 12) / 16777216 : Nat)) rfl (qbj .i64 16777216 (by show _ ≤ 9223372036854775807; omega))
 refine fp HF 1 13 [(76, vB (IntKind.u8.wrap (((b.body.length + 12) / 16777216 : Nat) : Int)))] fun a HF => ?_
 replace HF := HF.sp 76 (vB (((b.body.length + 12) / 16777216) % 256 : Nat)) rfl (qbi ((b.body.length + 12) / 16777216))
 refine fp HF 1 14 [(77, vP g1 0)] fun a HF => ?_
 refine fy HF HM 15 rfl rfl rfl (v := vB b.kind) (Yl.qh rfl rfl (by kernel_rfl) (fun _ h => h.cell (i := 1) rfl (rfl))) fun a HF => ?_
 refine fo HF 16 rfl rfl ?_
 refine ze HF HM (vs := [(0, vB ((b.body.length + 12) % 256 : Nat)), (1, vB (((b.body.length + 12) / 256) % 256 : Nat)), (2, vB (((b.body.length + 12) / 65536) % 256 : Nat)), (3, vB (((b.body.length + 12) / 16777216) % 256 : Nat)), (4, vB 113), (5, vB 116), (6, vB 1), (7, vB b.kind)]) (cs := #[vB ((b.body.length + 12) % 256 : Nat), vB (((b.body.length + 12) / 256) % 256 : Nat), vB (((b.body.length + 12) / 65536) % 256 : Nat), vB (((b.body.length + 12) / 16777216) % 256 : Nat), vB 113, vB 116, vB 1, vB b.kind]) rfl ei_u8 (by decide) rfl (by kernel_rfl) rfl (by decide) ?_
 clear HF HM; intro a w79 g79 HF HM
 refine fp HF 1 17 [(8, vS g79 8 8)] fun a HF => ?_
 refine qb rfl (wp_seq (qa ?_))
 refine fp HF 2 0 [(81, .slice Ax b.body.length cx), (80, vS g79 8 8)] fun a HF => ?_
 refine fo HF 2 rfl rfl ?_
 replace HM := HM.blkRow (i := 0) (n := 8) (size := 1) rfl rfl (by decide)
 refine qu HF HM (i := 0) rfl ei_u8 rfl rfl rfl (news := (b.body.map B8)) (HM.rd (i := 1) rfl) (qa2 _) (by omega) (by omega) rfl (by decide) ?_
 clear HF HM; intro a w82 A82 c82 HF HM hc82
 refine fp HF 1 3 [(2, .slice A82 (8 + b.body.length) c82)] fun a HF => ?_
 refine qb rfl ?_
 have hnA82 : 8 + b.body.length = b.raw.length := by rw [qcj]
 replace HM := HM.reRow (i := 0) (ys := b.raw.map B8) rfl hnA82 (raw10 b)
 rw [hnA82] at hc82
 replace HF := HF.as (t := 2) (u := .slice A82 b.raw.length c82) rfl (by rw [hnA82])
 replace HF := HF.as (t := 82) (u := .slice A82 b.raw.length c82) rfl (by rw [hnA82])
 refine wp_ret ?_
 exact ret1 rfl HF (.tmp HF rfl) (⟨⟨_, _, rfl, HM.own (i := 0) rfl, hc82⟩, HM.below⟩)
theorem qim (b : Bk) (hok : b.Ok) (A : Option Addr) (c : Nat) (w : World) (hr : Rd w w.heap.size 11 A b.evs.length (b.evs.flatMap evL)) (hn : b.evs.length ≤ 1000000) :
    Calls Tryz.prog 40 #[.agg (b.cells A c)] w (Is w (.int .i64 (b.err : Int))) := by
 refine qg (vs := [.agg (b.cells A c)]) Tryz.func40 rfl rfl (by kernel_rfl) (σ0 := [(0, .agg (b.cells A c))]) rfl ?_
 intro a HF
 have HM := Mem.start w
 refine wp_seq (qa ?_)
 refine fo HF 0 rfl rfl ?_
 refine e_box HF HM (cs := (b.cells A c)) rfl rfl rfl rfl (by decide) ?_
 clear HF HM; intro a w1 g1 HF HM
 refine fp HF 1 1 [(2, vI 0)] fun a HF => ?_
 refine qb rfl (wp_seq (wp_seq (qa ?_)))
 refine fy HF HM 0 rfl rfl rfl (v := .agg (b.cells A c)) (Yl.zc rfl rfl qb8 rfl (fun _ h => qf (h.blk (i := 0) rfl))) fun a HF => ?_
 refine fo HF 1 rfl rfl ?_
 refine e_is HF HM [.agg (b.cells A c)] (.bool b.fits) rfl rfl (qrf b hok A c _ (HM.old hr) hn) fun w4 hbw HM a HF => ?_
 refine fp HF 1 2 [(5, .bool (!b.fits))] fun a HF => ?_
 refine qb rfl ?_
 rcases HF.tf 5 rfl with ⟨hb5, HF⟩ | ⟨hb5, HF⟩
 ·
  have hf : b.fits = false := by simpa using hb5
  refine qe HF rfl (wp_seq (qa ?_))
  refine fp HF 1 0 [(2, vI 107)] fun a HF => ?_
  refine qb rfl (wp_ret ?_)
  exact ret1 rfl HF (.tmp HF rfl) (⟨by rw [show b.err = 107 from by unfold Bk.err; rw [if_pos hf]]; rfl, HM.below⟩)
 have hf : b.fits = true := by simpa using hb5
 refine qd HF rfl (wp_skip (wp_seq (wp_seq (qa ?_))))
 refine fy HF HM 0 rfl rfl rfl (v := .agg (b.cells A c)) (Yl.zc rfl rfl qb8 rfl (fun _ h => qf (h.blk (i := 0) rfl))) fun a HF => ?_
 refine fo HF 1 rfl rfl ?_
 refine e_cl HF [.agg (b.cells A c)] rfl rfl (qil b (hok) A c _ (HM.old hr) (hn) (hf)) ?_
 rintro _ w7 ⟨⟨A7, c7, rfl, ho, hc7⟩, hbw⟩
 refine ⟨_, rfl, ?_⟩
 replace HM := HM.callRow hbw ho
 clear HF; intro a HF
 have hrw7 := qcj b
 have hbl7 := qbt b
 refine fy HF HM 2 rfl rfl rfl (Yl.len rfl rfl (by kernel_rfl)) fun a HF => ?_
 refine fp HF 1 3 [(9, vI (IntKind.i64.wrap ((((b.raw).length : Nat) : Int) + 4)))] fun a HF => ?_
 replace HF := HF.sp 9 (vI ((b.raw).length + 4 : Nat)) rfl (qi (by omega) (by omega))
 refine fp HF 1 4 [(10, .bool (decide ((((b.raw).length + 4 : Nat) : Int) > (4096 : Int))))] fun a HF => ?_
 refine qb rfl ?_
 rcases HF.tf 10 rfl with ⟨hb10, HF⟩ | ⟨hb10, HF⟩
 ·
  have hd10 := of_decide_eq_true hb10
  refine qe HF rfl (wp_seq (qa ?_))
  refine fp HF 1 0 [(2, vI 3)] fun a HF => ?_
  refine qb rfl (wp_ret ?_)
  replace HM := HM.picks (fs' := [.blk g1 (b.cells A c) 48]) [1] (by decide) rfl
  exact ret1 rfl HF (.tmp HF rfl) (⟨by rw [show b.err = 3 from by unfold Bk.err; rw [if_neg (by rw [hf]; decide), if_pos (by omega)]]; rfl, HM.below⟩)
 have hd10 := of_decide_eq_false hb10
 refine qd HF rfl (wp_skip (wp_seq (qa ?_)))
 refine fp HF 1 0 [(2, vI 0)] fun a HF => ?_
 refine qb rfl (wp_ret ?_)
 replace HM := HM.picks (fs' := [.blk g1 (b.cells A c) 48]) [1] (by decide) rfl
 exact ret1 rfl HF (.tmp HF rfl) (⟨by rw [show b.err = 0 from by unfold Bk.err; rw [if_neg (by rw [hf]; decide), if_neg (by omega)]]; rfl, HM.below⟩)
theorem qoq (b : Bk) (hok : b.Ok) (A : Option Addr) (c : Nat) (w : World) (hr : Rd w w.heap.size 11 A b.evs.length (b.evs.flatMap evL)) (hn : b.evs.length ≤ 1000000) :
    Calls Tryz.prog 12 #[.agg (b.cells A c)] w (qah w b.err b.out) := by
 refine qg (vs := [.agg (b.cells A c)]) Tryz.func12 rfl rfl (by kernel_rfl) (σ0 := [(0, .agg (b.cells A c))]) rfl ?_
 intro a HF
 have HM := Mem.start w
 refine wp_seq (qa ?_)
 refine fo HF 0 rfl rfl ?_
 refine e_box HF HM (cs := (b.cells A c)) rfl rfl rfl rfl (by decide) ?_
 clear HF HM; intro a w1 g1 HF HM
 refine fp HF 2 1 [(3, vI 0), (2, .slice none 0 0)] fun a HF => ?_
 refine qb rfl (wp_seq (wp_seq (qa ?_)))
 refine fy HF HM 0 rfl rfl rfl (v := .agg (b.cells A c)) (Yl.zc rfl rfl qb8 rfl (fun _ h => qf (h.blk (i := 0) rfl))) fun a HF => ?_
 refine fo HF 1 rfl rfl ?_
 refine e_is HF HM [.agg (b.cells A c)] (vI b.err) rfl rfl (qim b hok A c _ (HM.old hr) hn) fun w6 hbw HM a HF => ?_
 refine fp HF 1 2 [(4, vI b.err)] fun a HF => ?_
 refine qb rfl (wp_seq (qa ?_))
 refine fp HF 2 0 [(8, .bool ((b.err : Int) != (0 : Int)))] fun a HF => ?_
 refine qb rfl ?_
 rcases HF.tf 8 rfl with ⟨hb8, HF⟩ | ⟨hb8, HF⟩
 ·
  have hd8 := bne_iff_ne.1 hb8
  have he : b.err ≠ 0 := by omega
  refine qe HF rfl (wp_seq (qa ?_))
  refine fp HF 3 0 [(3, vI b.err), (2, .slice none 0 0)] fun a HF => ?_
  refine qb rfl (wp_ret ?_)
  exact ret2 rfl HF (.tmp HF rfl) (.tmp HF rfl) (qtd rfl he HM.below)
 have hd8 := bne_eq_false_iff_eq.1 hb8
 have he : b.err = 0 := by omega
 obtain ⟨hf, hbb⟩ := qwj he
 refine qd HF rfl (wp_skip (wp_seq (qa ?_)))
 refine fy HF HM 0 rfl rfl rfl (v := .agg (b.cells A c)) (Yl.zc rfl rfl qb8 rfl (fun _ h => qf (h.blk (i := 0) rfl))) fun a HF => ?_
 refine fo HF 1 rfl rfl ?_
 refine e_cl HF [.agg (b.cells A c)] rfl rfl (qil b (hok) A c _ (HM.old hr) (hn) (hf)) ?_
 rintro _ w11 ⟨⟨A11, c11, rfl, ho, hc11⟩, hbw⟩
 refine ⟨_, rfl, ?_⟩
 replace HM := HM.callRow hbw ho
 clear HF; intro a HF
 have hrw11 := qcj b
 have hbl11 := qbt b
 refine fo HF 2 rfl rfl ?_
 refine e_cl HF [.slice A11 ((b.raw).length) c11] rfl rfl (qre _ _ _ b.raw _ (HM.rd (i := 0) rfl) rfl (by omega) (qxl hok)) ?_
 rintro _ w12 ⟨⟨A12, c12, rfl, ho, hc12⟩, hbw⟩
 refine ⟨_, rfl, ?_⟩
 replace HM := HM.callRow hbw ho
 clear HF; intro a HF
 refine fp HF 2 3 [(3, vI 0), (2, .slice A12 (((sealL b.raw)).length) c12)] fun a HF => ?_
 refine qb rfl (wp_ret ?_)
 replace HM := HM.picks (fs' := [.row (.slice A12 (((sealL b.raw)).length) c12) (((sealL b.raw)).length) ((sealL b.raw).map B8) 5 1, .blk g1 (b.cells A c) 48]) [0, 2] (by decide) rfl
 exact ret2 rfl HF (.tmp HF rfl) (.tmp HF rfl) (bk_ok he (HM.own (i := 0) rfl) hc12 HM.below)
theorem qw3 {b d : Bk} (h1 : b.kind = d.kind) (h2 : b.cpu = d.cpu) (h3 : b.lost = d.lost) (h4 : b.next = d.next) (h5 : b.evs.length = d.evs.length) (h : ∀ i, i < b.evs.length → b.evs.getD i Ev.zero = d.evs.getD i Ev.zero) : b = d := by
 have he : b.evs = d.evs := by
  apply List.ext_getElem h5
  intro i hi hj
  have := h i hi
  rwa [List.getD_eq_getElem?_getD, List.getD_eq_getElem?_getD, List.getElem?_eq_getElem hi, List.getElem?_eq_getElem hj] at this
 cases b; cases d
 simp only at h1 h2 h3 h4 he
 subst h1; subst h2; subst h3; subst h4; subst he
 rfl
theorem qfv {b d : Bk} (h : b.kind ≠ d.kind ∨ b.cpu ≠ d.cpu ∨ b.lost ≠ d.lost ∨ b.next ≠ d.next ∨ b.evs.length ≠ d.evs.length) : ¬ b = d := by
 rintro rfl
 omega
theorem qrh (b d : Bk) (A A2 : Option Addr) (c c2 : Nat) (w : World) (hr : Rd w w.heap.size 11 A b.evs.length (b.evs.flatMap evL)) (hr2 : Rd w w.heap.size 11 A2 d.evs.length (d.evs.flatMap evL)) (hn : b.evs.length ≤ 1000000) :
    Calls Tryz.prog 37 #[.agg (b.cells A c), .agg (d.cells A2 c2)] w (Is w (.bool (decide (b = d)))) := by
 refine qg (vs := [.agg (b.cells A c), .agg (d.cells A2 c2)]) Tryz.func37 rfl rfl (by kernel_rfl) (σ0 := [(0, .agg (b.cells A c)), (1, .agg (d.cells A2 c2))]) rfl ?_
 intro a HF
 have HM := Mem.start w
 refine wp_seq (qa ?_)
 refine fo HF 0 rfl rfl ?_
 refine e_box HF HM (cs := (b.cells A c)) rfl rfl rfl rfl (by decide) ?_
 clear HF HM; intro a w2 g2 HF HM
 refine fo HF 1 rfl rfl ?_
 refine e_box HF HM (cs := (d.cells A2 c2)) rfl rfl rfl rfl (by decide) ?_
 clear HF HM; intro a w3 g3 HF HM
 refine fp HF 1 2 [(4, .bool false)] fun a HF => ?_
 refine qb rfl (wp_seq (wp_seq (qa ?_)))
 refine fp HF 1 0 [(6, vP g2 0)] fun a HF => ?_
 refine fy HF HM 1 rfl rfl rfl (v := vB b.kind) (Yl.qh rfl rfl (by kernel_rfl) (fun _ h => h.cell (i := 1) rfl (rfl))) fun a HF => ?_
 refine fp HF 1 2 [(8, vP g3 0)] fun a HF => ?_
 refine fy HF HM 3 rfl rfl rfl (v := vB d.kind) (Yl.qh rfl rfl (by kernel_rfl) (fun _ h => h.cell (i := 0) rfl (rfl))) fun a HF => ?_
 refine fp HF 2 4 [(11, .bool ((b.kind : Int) != (d.kind : Int)))] fun a HF => ?_
 rcases HF.tf 11 rfl with ⟨hb11, HF⟩ | ⟨hb11, HF⟩
 ·
  have hd11 := bne_iff_ne.1 hb11
  refine fp HF 29 6 [(40, .bool true)] fun a HF => ?_
  refine qb rfl (qe HF rfl (wp_seq (qa ?_)))
  refine fp HF 1 0 [(4, .bool false)] fun a HF => ?_
  refine qb rfl (wp_ret ?_)
  exact ret1 rfl HF (.tmp HF rfl) (⟨by rw [decide_eq_false (qfv (by omega))], HM.below⟩)
 have hd11 := bne_eq_false_iff_eq.1 hb11
 refine fp HF 1 6 [(12, vP g2 1)] fun a HF => ?_
 refine fy HF HM 7 rfl rfl rfl (v := vB b.cpu) (Yl.qh rfl rfl (by kernel_rfl) (fun _ h => h.cell (i := 1) rfl (rfl))) fun a HF => ?_
 refine fp HF 1 8 [(14, vP g3 1)] fun a HF => ?_
 refine fy HF HM 9 rfl rfl rfl (v := vB d.cpu) (Yl.qh rfl rfl (by kernel_rfl) (fun _ h => h.cell (i := 0) rfl (rfl))) fun a HF => ?_
 refine fp HF 3 10 [(18, .bool ((b.cpu : Int) != (d.cpu : Int)))] fun a HF => ?_
 rcases HF.tf 18 rfl with ⟨hb18, HF⟩ | ⟨hb18, HF⟩
 ·
  have hd18 := bne_iff_ne.1 hb18
  refine fp HF 22 13 [(40, .bool true)] fun a HF => ?_
  refine qb rfl (qe HF rfl (wp_seq (qa ?_)))
  refine fp HF 1 0 [(4, .bool false)] fun a HF => ?_
  refine qb rfl (wp_ret ?_)
  exact ret1 rfl HF (.tmp HF rfl) (⟨by rw [decide_eq_false (qfv (by omega))], HM.below⟩)
 have hd18 := bne_eq_false_iff_eq.1 hb18
 refine fp HF 1 13 [(19, vP g2 2)] fun a HF => ?_
 refine fy HF HM 14 rfl rfl rfl (v := vI b.lost) (Yl.qh rfl rfl (by kernel_rfl) (fun _ h => h.cell (i := 1) rfl (rfl))) fun a HF => ?_
 refine fp HF 1 15 [(21, vP g3 2)] fun a HF => ?_
 refine fy HF HM 16 rfl rfl rfl (v := vI d.lost) (Yl.qh rfl rfl (by kernel_rfl) (fun _ h => h.cell (i := 0) rfl (rfl))) fun a HF => ?_
 refine fp HF 3 17 [(25, .bool ((b.lost : Int) != (d.lost : Int)))] fun a HF => ?_
 rcases HF.tf 25 rfl with ⟨hb25, HF⟩ | ⟨hb25, HF⟩
 ·
  have hd25 := bne_iff_ne.1 hb25
  refine fp HF 15 20 [(40, .bool true)] fun a HF => ?_
  refine qb rfl (qe HF rfl (wp_seq (qa ?_)))
  refine fp HF 1 0 [(4, .bool false)] fun a HF => ?_
  refine qb rfl (wp_ret ?_)
  exact ret1 rfl HF (.tmp HF rfl) (⟨by rw [decide_eq_false (qfv (by omega))], HM.below⟩)
 have hd25 := bne_eq_false_iff_eq.1 hb25
 refine fp HF 1 20 [(26, vP g2 3)] fun a HF => ?_
 refine fy HF HM 21 rfl rfl rfl (v := vI b.next) (Yl.qh rfl rfl (by kernel_rfl) (fun _ h => h.cell (i := 1) rfl (rfl))) fun a HF => ?_
 refine fp HF 1 22 [(28, vP g3 3)] fun a HF => ?_
 refine fy HF HM 23 rfl rfl rfl (v := vI d.next) (Yl.qh rfl rfl (by kernel_rfl) (fun _ h => h.cell (i := 0) rfl (rfl))) fun a HF => ?_
 refine fp HF 3 24 [(32, .bool ((b.next : Int) != (d.next : Int)))] fun a HF => ?_
 rcases HF.tf 32 rfl with ⟨hb32, HF⟩ | ⟨hb32, HF⟩
 ·
  have hd32 := bne_iff_ne.1 hb32
  refine fp HF 8 27 [(40, .bool true)] fun a HF => ?_
  refine qb rfl (qe HF rfl (wp_seq (qa ?_)))
  refine fp HF 1 0 [(4, .bool false)] fun a HF => ?_
  refine qb rfl (wp_ret ?_)
  exact ret1 rfl HF (.tmp HF rfl) (⟨by rw [decide_eq_false (qfv (by omega))], HM.below⟩)
 have hd32 := bne_eq_false_iff_eq.1 hb32
 refine fp HF 1 27 [(33, vP g2 4)] fun a HF => ?_
 refine fy HF HM 28 rfl rfl rfl (v := .slice A b.evs.length c) (Yl.qh rfl rfl (by kernel_rfl) (fun _ h => h.cell (i := 1) rfl (rfl))) fun a HF => ?_
 refine fy HF HM 29 rfl rfl rfl (Yl.len rfl rfl (by kernel_rfl)) fun a HF => ?_
 refine fp HF 1 30 [(36, vP g3 4)] fun a HF => ?_
 refine fy HF HM 31 rfl rfl rfl (v := .slice A2 d.evs.length c2) (Yl.qh rfl rfl (by kernel_rfl) (fun _ h => h.cell (i := 0) rfl (rfl))) fun a HF => ?_
 refine fy HF HM 32 rfl rfl rfl (Yl.len rfl rfl (by kernel_rfl)) fun a HF => ?_
 refine fp HF 2 33 [(40, .bool ((b.evs.length : Int) != (d.evs.length : Int)))] fun a HF => ?_
 refine qb rfl ?_
 rcases HF.tf 40 rfl with ⟨hb40, HF⟩ | ⟨hb40, HF⟩
 ·
  have hd40 := bne_iff_ne.1 hb40
  refine qe HF rfl (wp_seq (qa ?_))
  refine fp HF 1 0 [(4, .bool false)] fun a HF => ?_
  refine qb rfl (wp_ret ?_)
  exact ret1 rfl HF (.tmp HF rfl) (⟨by rw [decide_eq_false (qfv (by omega))], HM.below⟩)
 have hd40 := bne_eq_false_iff_eq.1 hb40
 refine qd HF rfl (wp_skip (wp_seq (wp_seq (qa ?_))))
 refine fp HF 1 0 [(5, vI 0)] fun a HF => ?_
 refine qb rfl (wp_block ?_)
 refine qs (fun mS aS wS => ∃ (k : Nat), (k ≤ b.evs.length) ∧ (∀ i, i < k → b.evs.getD i Ev.zero = d.evs.getD i Ev.zero) ∧ mS = b.evs.length - k ∧ Fr aS 59 [] [(5, vI k), (40, .bool false), (4, .bool false), (3, vP g3 0), (2, vP g2 0)] ∧ Mem w wS [.blk g3 (d.cells A2 c2) 48, .blk g2 (b.cells A c) 48]) (m := b.evs.length - 0) ⟨0, Nat.zero_le _, fun i hi => absurd hi (Nat.not_lt_zero _), rfl, HF.sub (by kernel_rfl), HM.picks [0, 1] (by decide) rfl⟩ ?_
 clear HF HM; rintro mS a w_ ⟨k, hk, hall, rfl, HF, HM⟩
 refine wp_seq (wp_seq (qa ?_))
 refine fp HF 2 0 [(42, vP g2 4), (41, vI k)] fun a HF => ?_
 refine fy HF HM 2 rfl rfl rfl (v := .slice A b.evs.length c) (Yl.qh rfl rfl (by kernel_rfl) (fun _ h => h.cell (i := 1) rfl (rfl))) fun a HF => ?_
 refine fy HF HM 3 rfl rfl rfl (Yl.len rfl rfl (by kernel_rfl)) fun a HF => ?_
 refine fp HF 1 4 [(45, .bool (decide ((k : Int) < (b.evs.length : Int))))] fun a HF => ?_
 refine qb rfl ?_
 rcases HF.tf 45 rfl with ⟨hb45, HF⟩ | ⟨hb45, HF⟩
 ·
  have hd45 := of_decide_eq_true hb45
  have hk45 : k < b.evs.length := by omega
  refine qe HF rfl (wp_skip (wp_seq (wp_block (wp_seq ?_))))
  refine qag HM [.blk g3 (d.cells A2 c2) 48, .blk g2 (b.cells A c) 48] [0, 1] [] fun HM HS => ?_
  refine ap HF (fun _ => HS) [0, 2, 5, 7] #[true, false, true, false, false, true, false, true, false, false, false] [(55, vI k), (53, vP g3 4), (50, vI k), (48, vP g2 4)] fun a HF => ?_
  refine ay HF HS 1 rfl rfl rfl (v := .slice A b.evs.length c) (Yl.qh rfl rfl (by kernel_rfl) (fun _ h => h.cell (i := 1) rfl (rfl))) fun a HF => ?_
  obtain ⟨gA, oA, rfl, _⟩ := hr.qy (Nat.lt_of_le_of_lt (Nat.zero_le _) (show k < b.evs.length from by omega)) (by decide)
  refine ay HF HS 3 rfl rfl rfl (v := vP gA (oA + k * 11)) (Yl.ix gA oA k 11 rfl rfl rfl) fun a HF => ?_
  refine ay HF HS 4 rfl rfl rfl (v := .agg ((b.evs.getD k Ev.zero).cells)) (Yl.zc rfl rfl ⟨(by kernel_rfl), (by kernel_rfl)⟩ rfl (fun _ h => (h.old hr).zt zf ((getD_at Ev.zero (k := k) (by first | omega | (simp; omega)))))) fun a HF => ?_
  refine ay HF HS 6 rfl rfl rfl (v := .slice A2 d.evs.length c2) (Yl.qh rfl rfl (by kernel_rfl) (fun _ h => h.cell (i := 0) rfl (rfl))) fun a HF => ?_
  obtain ⟨gA2, oA2, rfl, _⟩ := hr2.qy (Nat.lt_of_le_of_lt (Nat.zero_le _) (show k < d.evs.length from by omega)) (by decide)
  refine ay HF HS 8 rfl rfl rfl (v := vP gA2 (oA2 + k * 11)) (Yl.ix gA2 oA2 k 11 rfl rfl rfl) fun a HF => ?_
  refine ay HF HS 9 rfl rfl rfl (v := .agg ((d.evs.getD k Ev.zero).cells)) (Yl.zc rfl rfl ⟨(by kernel_rfl), (by kernel_rfl)⟩ rfl (fun _ h => (h.old hr2).zt zf ((getD_at Ev.zero (k := k) (by first | omega | (simp; omega)))))) fun a HF => ?_
  refine ay HF HS 10 rfl rfl rfl (v := .bool (!(decide ((b.evs.getD k Ev.zero) = (d.evs.getD k Ev.zero))))) (Yl.q0i (x := (b.evs.getD k Ev.zero)) (y := (d.evs.getD k Ev.zero)) rfl rfl rfl (by kernel_rfl)) fun a HF => ?_
  refine qn (by kernel_rfl) ?_
  rcases HF.tf 58 rfl with ⟨hb58, HF⟩ | ⟨hb58, HF⟩
  ·
   have hd58 := of_decide_eq_false ((Bool.not_eq_true' _).mp hb58)
   refine qe HF rfl (wp_seq (qa ?_))
   refine fp HF 1 0 [(4, .bool false)] fun a HF => ?_
   refine qb rfl (wp_ret ?_)
   exact ret1 rfl HF (.tmp HF rfl) (⟨by rw [decide_eq_false (fun h => by rw [h] at hb58; simp at hb58)], HM.below⟩)
  have hd58 := of_decide_eq_true ((Bool.not_eq_false' _).mp hb58)
  refine qd HF rfl (wp_skip (qa ?_))
  refine fp HF 2 0 [(47, vI (IntKind.i64.wrap ((k : Int) + 1)))] fun a HF => ?_
  replace HF := HF.sp 47 (vI (k + 1 : Nat)) rfl (qi (by omega) (by omega))
  refine fp HF 1 2 [(5, vI (k + 1 : Nat))] fun a HF => ?_
  refine qb rfl ?_
  exact ⟨_, (by omega), k + 1, by omega, fun i hi => (Nat.lt_succ_iff_lt_or_eq.1 hi).elim (hall i) (fun h => by subst h; simpa using hb58), rfl, HF.sub (by kernel_rfl), HM.picks [0, 1] (by decide) rfl⟩
 have hd45 := of_decide_eq_false hb45
 refine qd HF rfl (wp_exit (wp_seq (qa ?_)))
 refine fp HF 1 0 [(4, .bool true)] fun a HF => ?_
 refine qb rfl (wp_ret ?_)
 exact ret1 rfl HF (.tmp HF rfl) (⟨by rw [decide_eq_true (qw3 (by omega) (by omega) (by omega) (by omega) (by omega) (fun i hi => hall i (by omega)))], HM.below⟩)
theorem qin (cpu : Nat) (A : Option Addr) (n c : Nat) (l : List It) (opn : Int) (k : Nat) (hG : GoodI cpu l opn) (hk : k ≤ n) (w : World) (hr : Rd w w.heap.size 12 A n (l.flatMap itL)) (hln : l.length = n) (hn : n ≤ 1000000) :
    Calls Tryz.prog 60 #[.int .u8 (cpu : Int), .slice A n c, .int .i64 opn, .int .i64 (k : Int)] w (qxr w (ofB cpu l opn k)) := by
 refine qg (vs := [vB cpu, .slice A n c, vI opn, vI k]) Tryz.func60 rfl rfl (by kernel_rfl) (σ0 := [(0, vB cpu), (1, .slice A n c), (2, vI opn), (3, vI k)]) rfl ?_
 intro a HF
 have HM := Mem.start w
 refine wp_seq (qa ?_)
 refine fo HF 0 rfl rfl ?_
 refine qt HF HM (cs := #[vB 0, vB 0, vI 0, vI 0, .slice none 0 0]) rfl (by kernel_rfl) rfl (by decide) ?_
 clear HF HM; intro a w8 g8 HF HM
 refine qb rfl (wp_seq (qa ?_))
 refine fp HF 1 0 [(11, vB cpu)] fun a HF => ?_
 refine fy HF HM 1 rfl rfl rfl (v := .agg #[vB 1, vB cpu, vI 0, vI 0, .slice none 0 0]) (Yl.build (vs := [(0, vB 1), (1, vB cpu)]) rfl (by kernel_rfl) (by kernel_rfl)) fun a HF => ?_
 refine fo HF 2 rfl rfl ?_
 refine qt HF HM (cs := #[vB 0, vB 0, vI 0, vI 0, .slice none 0 0]) rfl (by kernel_rfl) rfl (by decide) ?_
 clear HF HM; intro a w9 g9 HF HM
 refine fo HF 3 rfl rfl ?_
 refine e_sa HF HM 0 rfl rfl rfl rfl rfl qb8 rfl rfl (by simp [Value.oneCell']) ?_
 clear HM; intro w1_3 HM
 refine qb rfl ?_
 replace HM := HM.nil 112 11
 refine wp_seq (wp_seq (qa ?_))
 refine fp HF 1 0 [(10, vI 0)] fun a HF => ?_
 refine qb rfl (wp_block ?_)
 refine qs (fun mS aS wS => ∃ (j : Nat) (Aj : Option Addr) (cj : Nat), (j ≤ k) ∧ (j ≤ cj) ∧ mS = k - j ∧ Fr aS 47 [] [(10, vI j), (9, vP g9 0), (8, vP g8 0), (1, .slice A n c), (2, vI opn), (3, vI k)] ∧ Mem w wS [.row (.slice Aj j cj) j ((evsI (l.take j)).flatMap evL) 112 11, .blk g9 #[vB 1, vB cpu, vI (sumI (befI (l.take j))), vI 0, .slice Aj j cj] 48, .blk g8 #[vB 0, vB 0, vI 0, vI 0, .slice none 0 0] 48]) (m := k - 0) ⟨0, none, 0, Nat.zero_le _, Nat.le_refl _, rfl, HF.sub (by kernel_rfl), HM.picks [0, 1, 2] (by decide) rfl⟩ ?_
 clear HF HM; rintro mS a w_ ⟨j, Aj, cj, hj, hcj, rfl, HF, HM⟩
 refine wp_seq (wp_seq (qa ?_))
 refine fp HF 3 0 [(15, .bool (decide ((j : Int) < (k : Int))))] fun a HF => ?_
 refine qb rfl ?_
 rcases HF.tf 15 rfl with ⟨hb15, HF⟩ | ⟨hb15, HF⟩
 ·
  have hd15 := of_decide_eq_true hb15
  have hj15 : j < k := by omega
  have ho0 := hG.o0
  have hp0 := hG.part j
  have hp1 := hG.part (j + 1)
  have hps := qt3 (l := l) (j := j) (by omega)
  refine qe HF rfl (wp_skip (wp_seq (wp_block (wp_seq ?_))))
  refine qag HM [.blk g9 #[vB 1, vB cpu, vI (sumI (befI (l.take j))), vI 0, .slice Aj j cj] 48, .blk g8 #[vB 0, vB 0, vI 0, vI 0, .slice none 0 0] 48] [1, 2] [10] fun HM HS => ?_
  refine ap HF (fun _ => HS) [0, 2, 3] #[true, false, true, true, false, false, false, false, false, false, false] [(21, vI j), (20, .slice A n c), (18, vP g9 4)] fun a HF => ?_
  refine ay HF HS 1 rfl rfl rfl (Yl.qh rfl rfl (by kernel_rfl) (fun _ h => h.cell (i := 0) rfl rfl)) fun a HF => ?_
  obtain ⟨gA, oA, rfl, _⟩ := hr.qy (Nat.lt_of_le_of_lt (Nat.zero_le _) (show j < n from by omega)) (by decide)
  refine ay HF HS 4 rfl rfl rfl (v := vP gA (oA + j * 12)) (Yl.ix gA oA j 12 rfl rfl rfl) fun a HF => ?_
  refine ap HF (fun _ => HS) [5] #[true, true, true, true, true, true, false, false, false, false, false] [(23, vP gA (oA + j * 12))] fun a HF => ?_
  refine ay HF HS 6 rfl rfl rfl (v := .agg ((l.getD j It.zero).e.cells)) (Yl.zc rfl rfl ⟨(by kernel_rfl), (by kernel_rfl)⟩ rfl (fun _ h => (h.old hr).q0f qaq (k := j) (j := 0) (m := 11) (x := (l.getD j It.zero)) ((getD_at It.zero (k := j) (by first | omega | (simp; omega)))) rfl)) fun a HF => ?_
  refine qj [7] (by kernel_rfl) rfl ?_
  refine all_cons ?_ all_nil
  refine qo HF (i := 7) rfl rfl ?_
  refine ze HF HM (vs := [(0, .agg ((l.getD j It.zero).e.cells))]) (cs := (l.getD j It.zero).e.cells) rfl qj0 (by decide) rfl (by kernel_rfl) rfl (by decide) ?_
  clear HF HM; intro a w25 g25 HF HM
  refine keepS (HM.picks [2, 3] (by decide) rfl) (fun HS => ?_)
  refine qj [8] (by kernel_rfl) rfl ?_
  refine all_cons ?_ all_nil
  refine qo HF (i := 8) rfl rfl ?_
  refine qu HF HM (i := 1) rfl qj0 rfl rfl rfl (news := (evL (l.getD j It.zero).e)) (HM.rdBlk (i := 0) (n := 1) (size := 11) rfl rfl) (qan _) (by omega) (by omega) rfl (by decide) ?_
  clear HF HM; intro a w26 A26 c26 HF HM hc26
  rw [show ((evsI (l.take j)).flatMap evL) ++ (evL (l.getD j It.zero).e) = (evsI (l.take (j + 1))).flatMap evL from by rw [qgj (by omega)]] at HM
  refine keepS (HM.picks [2, 3] (by decide) rfl) (fun HS => ?_)
  refine ap HF (fun _ => HS) [9] #[true, true, true, true, true, true, true, true, true, true, false] [(27, vP g9 4)] fun a HF => ?_
  refine qj [10] (by kernel_rfl) rfl ?_
  refine all_cons ?_ all_nil
  refine qo HF (i := 10) rfl rfl ?_
  refine zd HF HM (i := 2) rfl rfl rfl rfl (by kernel_rfl) rfl rfl (by simp) ?_
  clear HM; intro w5_10 HM
  refine noS (by kernel_rfl) ?_
  refine qn (by kernel_rfl) ?_
  refine qag HM [.blk g25 ((l.getD j It.zero).e.cells) 112, .row (.slice A26 (j + 1) c26) (j + 1) ((evsI (l.take (j + 1))).flatMap evL) 112 11, .blk g9 #[vB 1, vB cpu, vI (sumI (befI (l.take j))), vI 0, .slice A26 (j + 1) c26] 48, .blk g8 #[vB 0, vB 0, vI 0, vI 0, .slice none 0 0] 48] [0, 1, 2, 3] [9] fun HM HS => ?_
  refine ap HF (fun _ => HS) [0, 2, 3] #[true, false, true, true, false, false, false, false, false, false] [(31, vI j), (30, .slice (some ⟨gA, oA, none⟩) n c), (28, vP g9 2)] fun a HF => ?_
  refine ay HF HS 1 rfl rfl rfl (Yl.qh rfl rfl (by kernel_rfl) (fun _ h => h.cell (i := 2) rfl rfl)) fun a HF => ?_
  refine ay HF HS 4 rfl rfl rfl (v := vP gA (oA + j * 12)) (Yl.ix gA oA j 12 rfl rfl rfl) fun a HF => ?_
  refine ap HF (fun _ => HS) [5] #[true, true, true, true, true, true, false, false, false, false] [(33, vP gA (oA + j * 12 + 11))] fun a HF => ?_
  refine ay HF HS 6 rfl rfl rfl (v := vI ((l.getD j It.zero).before)) (Yl.qh rfl rfl (by kernel_rfl) (fun _ h => (h.old hr).partAt qaq (k := j) (j := 11) (x := (l.getD j It.zero)) ((getD_at It.zero (k := j) (by first | omega | (simp; omega)))) rfl)) fun a HF => ?_
  refine zh HF (fun _ => HS) (i := 7) rfl rfl (d := 35) rfl (by decide) (by kernel_rfl) (fun _ _ _ h => h) (v := vI (IntKind.i64.wrap ((sumI (befI (l.take j))) + ((l.getD j It.zero).before)))) (fun _ => Yl.pure (by kernel_rfl)) fun a HF => ?_
  replace HF := HF.sp 35 (vI (sumI (befI (l.take (j + 1))))) rfl (by rw [hps]; exact qgt ⟨by omega, by omega⟩)
  refine ap HF (fun _ => HS) [8] #[true, true, true, true, true, true, true, true, true, false] [(36, vP g9 2)] fun a HF => ?_
  refine qj [9] (by kernel_rfl) rfl ?_
  refine all_cons ?_ all_nil
  refine qo HF (i := 9) rfl rfl ?_
  refine zd HF HM (i := 2) rfl rfl rfl rfl (by kernel_rfl) rfl rfl (by simp) ?_
  clear HM; intro w6_9 HM
  refine noS (by kernel_rfl) ?_
  refine qn (by kernel_rfl) ?_
  refine qa ?_
  refine fp HF 2 0 [(17, vI (IntKind.i64.wrap ((j : Int) + 1)))] fun a HF => ?_
  replace HF := HF.sp 17 (vI (j + 1 : Nat)) rfl (qi (by omega) (by omega))
  refine fp HF 1 2 [(10, vI (j + 1 : Nat))] fun a HF => ?_
  refine qb rfl ?_
  exact ⟨_, (by omega), j + 1, A26, c26, by omega, hc26, rfl, HF.sub (by kernel_rfl), HM.picks [1, 2, 3] (by decide) rfl⟩
 have hd15 := of_decide_eq_false hb15
 obtain rfl : j = k := by omega
 have hp0 := hG.part j
 have ho0 := hG.o0
 refine qd HF rfl (wp_exit (wp_seq (wp_seq (qa ?_))))
 refine fp HF 2 0 [(38, .slice A n c), (37, vI j)] fun a HF => ?_
 refine fy HF HM 2 rfl rfl rfl (Yl.len rfl rfl (by kernel_rfl)) fun a HF => ?_
 refine fp HF 1 3 [(40, .bool ((j : Int) == (n : Int)))] fun a HF => ?_
 refine qb rfl ?_
 rcases HF.tf 40 rfl with ⟨hb40, HF⟩ | ⟨hb40, HF⟩
 ·
  have hd40 := eq_of_beq hb40
  have hlo := qt4 (cpu := cpu) (opn := opn) (l := l) (k := j) (by omega)
  refine qe HF rfl (qa ?_)
  refine fp HF 1 0 [(41, vP g9 2)] fun a HF => ?_
  refine fy HF HM 1 rfl rfl rfl (Yl.qh rfl rfl (by kernel_rfl) (fun _ h => h.cell (i := 1) rfl rfl)) fun a HF => ?_
  refine fp HF 2 2 [(44, vI (IntKind.i64.wrap ((sumI (befI (l.take j))) + opn)))] fun a HF => ?_
  replace HF := HF.sp 44 (vI ((sumI (befI (l.take j))) + opn)) rfl (qgt ⟨by omega, by omega⟩)
  refine fp HF 1 4 [(45, vP g9 2)] fun a HF => ?_
  refine fo HF 5 rfl rfl ?_
  refine zd HF HM (i := 1) rfl rfl rfl rfl (by kernel_rfl) rfl rfl (by simp) ?_
  clear HM; intro w8_5 HM
  refine qb rfl (wp_seq (qa ?_))
  refine fy HF HM 0 rfl rfl rfl (v := .agg #[vB 1, vB cpu, vI ((sumI (befI (l.take j))) + opn), vI 0, .slice Aj j cj]) (Yl.zc rfl rfl qb8 rfl (fun _ h => qf (h.blk (i := 1) rfl))) fun a HF => ?_
  refine fo HF 1 rfl rfl ?_
  refine e_sa HF HM 2 rfl rfl rfl rfl rfl qb8 rfl rfl (by simp [Value.oneCell']) ?_
  clear HM; intro w9_1 HM
  refine qb rfl (wp_ret ?_)
  exact ret1 rfl HF (.cellS (i := 2) HF HM rfl rfl qb8 rfl) (⟨⟨Aj, cj, by rw [← qfq (by omega) (by rw [hlo])], by rw [qbw (by omega)]; exact HM.own (i := 0) rfl, by rw [qbw (by omega)]; omega⟩, HM.below⟩)
 have hd40 := ne_of_beq_false hb40
 have hlo := qt5 (cpu := cpu) (opn := opn) (l := l) (k := j) (by omega)
 refine qd HF rfl (wp_skip (wp_seq (qa ?_)))
 refine fy HF HM 0 rfl rfl rfl (v := .agg #[vB 1, vB cpu, vI (sumI (befI (l.take j))), vI 0, .slice Aj j cj]) (Yl.zc rfl rfl qb8 rfl (fun _ h => qf (h.blk (i := 1) rfl))) fun a HF => ?_
 refine fo HF 1 rfl rfl ?_
 refine e_sa HF HM 2 rfl rfl rfl rfl rfl qb8 rfl rfl (by simp [Value.oneCell']) ?_
 clear HM; intro w9_1 HM
 refine qb rfl (wp_ret ?_)
 exact ret1 rfl HF (.cellS (i := 2) HF HM rfl rfl qb8 rfl) (⟨⟨Aj, cj, by rw [← qfq (by omega) (by rw [hlo])], by rw [qbw (by omega)]; exact HM.own (i := 0) rfl, by rw [qbw (by omega)]; omega⟩, HM.below⟩)
theorem qrg (cpu : Nat) (hcpu : cpu < 256) (A : Option Addr) (n c : Nat) (l : List It) (opn limit : Int) (hok : ∀ x ∈ l, x.Ok) (ho : I64 opn) (hlm : I64 limit) (w : World) (hr : Rd w w.heap.size 12 A n (l.flatMap itL)) (hc : n ≤ c) (hln : l.length = n) (hn : n ≤ 1000000) :
    Calls Tryz.prog 39 #[.int .u8 (cpu : Int), .slice A n c, .int .i64 opn, .int .i64 limit] w (qh0 112 48 w (cutS cpu l opn limit).2 (cutS cpu l opn limit).1) := by
 subst hln
 refine qg (vs := [vB cpu, .slice A l.length c, vI opn, vI limit]) Tryz.func39 rfl rfl (by kernel_rfl) (σ0 := [(0, vB cpu), (1, .slice A l.length c), (2, vI opn), (3, vI limit)]) rfl ?_
 intro a HF
 have HM := Mem.start w
 refine wp_seq (qa ?_)
 refine fp HF 2 0 [(9, vI 0), (8, .slice none 0 0)] fun a HF => ?_
 refine qb rfl (wp_seq (wp_seq (qa ?_)))
 refine fp HF 3 0 [(14, .bool (decide ((cpu : Int) > (63 : Int))))] fun a HF => ?_
 rcases HF.tf 14 rfl with ⟨hb14, HF⟩ | ⟨hb14, HF⟩
 ·
  have hd14 := of_decide_eq_true hb14
  refine fp HF 7 3 [(21, .bool true)] fun a HF => ?_
  refine qb rfl (qe HF rfl (wp_seq (qa ?_)))
  refine fp HF 2 0 [(9, vI 2), (8, .slice none 0 0)] fun a HF => ?_
  refine qb rfl (wp_ret ?_)
  exact ret2 rfl HF (.tmp HF rfl) (.tmp HF rfl) (by rw [qel (by omega)]; exact qb0 HM rfl)
 have hd14 := of_decide_eq_false hb14
 refine fp HF 4 3 [(18, .bool (decide ((limit : Int) < (1 : Int))))] fun a HF => ?_
 rcases HF.tf 18 rfl with ⟨hb18, HF⟩ | ⟨hb18, HF⟩
 ·
  have hd18 := of_decide_eq_true hb18
  refine fp HF 3 7 [(21, .bool true)] fun a HF => ?_
  refine qb rfl (qe HF rfl (wp_seq (qa ?_)))
  refine fp HF 2 0 [(9, vI 2), (8, .slice none 0 0)] fun a HF => ?_
  refine qb rfl (wp_ret ?_)
  exact ret2 rfl HF (.tmp HF rfl) (.tmp HF rfl) (by rw [qel (by omega)]; exact qb0 HM rfl)
 have hd18 := of_decide_eq_false hb18
 refine fp HF 3 7 [(21, .bool (decide ((limit : Int) > (4096 : Int))))] fun a HF => ?_
 refine qb rfl ?_
 rcases HF.tf 21 rfl with ⟨hb21, HF⟩ | ⟨hb21, HF⟩
 ·
  have hd21 := of_decide_eq_true hb21
  refine qe HF rfl (wp_seq (qa ?_))
  refine fp HF 2 0 [(9, vI 2), (8, .slice none 0 0)] fun a HF => ?_
  refine qb rfl (wp_ret ?_)
  exact ret2 rfl HF (.tmp HF rfl) (.tmp HF rfl) (by rw [qel (by omega)]; exact qb0 HM rfl)
 have hd21 := of_decide_eq_false hb21
 refine qd HF rfl (wp_skip (wp_seq (wp_seq (qa ?_))))
 refine fp HF 3 0 [(24, vI opn), (23, .slice A l.length c), (22, vB cpu)] fun a HF => ?_
 refine fo HF 3 rfl rfl ?_
 refine e_is HF HM [vB cpu, .slice A l.length c, vI opn] (.bool (qdu cpu l opn)) rfl rfl (qm1 cpu A l.length c l opn hok ho _ (HM.old hr) rfl (by omega)) fun w25 hbw HM a HF => ?_
 refine fp HF 1 4 [(26, .bool (!(qdu cpu l opn)))] fun a HF => ?_
 refine qb rfl ?_
 rcases HF.tf 26 rfl with ⟨hb26, HF⟩ | ⟨hb26, HF⟩
 ·
  have hbad : zx cpu l opn = false := by rw [← qmi (by omega) hok]; simpa using hb26
  refine qe HF rfl (wp_seq (qa ?_))
  refine fp HF 2 0 [(9, vI 110), (8, .slice none 0 0)] fun a HF => ?_
  refine qb rfl (wp_ret ?_)
  exact ret2 rfl HF (.tmp HF rfl) (.tmp HF rfl) (by rw [qjq (by omega) hbad]; exact qb0 HM rfl)
 have hgood : zx cpu l opn = true := by rw [← qmi (by omega) hok]; simpa using hb26
 have hG := GoodI.of (by omega) hok hgood
 have ho0 := hG.o0
 refine qd HF rfl (wp_skip (wp_seq (qa ?_)))
 refine fp HF 1 0 [(10, .slice none 0 0)] fun a HF => ?_
 refine qb rfl ?_
 obtain ⟨lim, rfl⟩ : ∃ k : Nat, limit = (k : Int) := ⟨limit.toNat, by omega⟩
 replace HM := HM.nil 48 5
 replace HM : Mem w _ (.row (.slice none 0 0) 0 [] 48 5 :: hbF 112 []) := HM
 refine wp_seq (wp_seq (qa ?_))
 refine fp HF 1 0 [(27, .slice A l.length c)] fun a HF => ?_
 refine fy HF HM 1 rfl rfl rfl (Yl.len rfl rfl (by kernel_rfl)) fun a HF => ?_
 refine fp HF 2 2 [(30, .bool ((l.length : Int) == (0 : Int)))] fun a HF => ?_
 rcases HF.tf 30 rfl with ⟨hb30, HF⟩ | ⟨hb30, HF⟩
 ·
  have hd30 := eq_of_beq hb30
  refine fp HF 3 4 [(33, .bool (decide ((opn : Int) > (0 : Int))))] fun a HF => ?_
  refine qb rfl ?_
  rcases HF.tf 33 rfl with ⟨hb33, HF⟩ | ⟨hb33, HF⟩
  ·
   have hd33 := of_decide_eq_true hb33
   refine qe HF rfl (qa ?_)
   refine fp HF 4 0 [(37, vI opn), (36, .slice A l.length c), (35, vB cpu), (34, .slice none 0 0)] fun a HF => ?_
   refine fo HF 4 rfl rfl ?_
   refine e_cl HF [vB cpu, .slice A l.length c, vI opn, vI 0] rfl rfl (qin cpu A l.length c l opn 0 hG (by omega) _ (HM.old hr) rfl (by omega)) ?_
   rintro _ w38 ⟨⟨A38, c38, rfl, ho, hc38⟩, hbw⟩
   refine ⟨_, rfl, ?_⟩
   replace HM := HM.callRow hbw ho
   clear HF; intro a HF
   refine fo HF 5 rfl rfl ?_
   refine ze HF HM (vs := [(0, .agg ((ofB cpu l opn 0).cells A38 c38))]) (cs := ((ofB cpu l opn 0).cells A38 c38)) rfl qib (by decide) rfl (by kernel_rfl) rfl (by decide) ?_
   clear HF HM; intro a w39 g39 HF HM
   refine fo HF 6 rfl rfl ?_
   refine qu HF HM (i := 2) rfl qib rfl rfl rfl (news := (hbL (⟨ofB cpu l opn 0, A38, c38⟩ : Hb))) (HM.rdBlk (i := 0) (n := 1) (size := 5) rfl rfl) (qbk _ _ _) (by omega) (by omega) rfl (by decide) ?_
   clear HF HM; intro a w40 A40 c40 HF HM hc40
   refine fp HF 1 7 [(10, .slice A40 (0 + 1) c40)] fun a HF => ?_
   refine qb rfl ?_
   have hnA40 : 0 + 1 = (([] : List Hb) ++ [(⟨ofB cpu l opn 0, A38, c38⟩ : Hb)]).length := by rw [List.length_append]; rfl
   replace HM := HM.reRow (i := 2) (ys := (([] : List Hb) ++ [(⟨ofB cpu l opn 0, A38, c38⟩ : Hb)]).flatMap hbL) rfl hnA40 (by rw [List.flatMap_append, List.flatMap_cons, List.flatMap_nil, List.append_nil])
   rw [hnA40] at hc40
   replace HF := HF.as (t := 10) (u := .slice A40 ((([] : List Hb) ++ [(⟨ofB cpu l opn 0, A38, c38⟩ : Hb)]).length) c40) rfl (by rw [hnA40])
   replace HF := HF.as (t := 40) (u := .slice A40 ((([] : List Hb) ++ [(⟨ofB cpu l opn 0, A38, c38⟩ : Hb)]).length) c40) rfl (by rw [hnA40])
   replace HM := Mem.qy5 (a := [.blk g39 ((ofB cpu l opn 0).cells A38 c38) 48, .row (.slice A40 ((([] : List Hb) ++ [(⟨ofB cpu l opn 0, A38, c38⟩ : Hb)]).length) c40) ((([] : List Hb) ++ [(⟨ofB cpu l opn 0, A38, c38⟩ : Hb)]).length) ((([] : List Hb) ++ [(⟨ofB cpu l opn 0, A38, c38⟩ : Hb)]).flatMap hbL) 48 5]) (q := ([] : List Hb)) (HM.picksT (fs' := (.row (.slice A38 ((ofB cpu l opn 0).evs.length) c38) ((ofB cpu l opn 0).evs.length) ((ofB cpu l opn 0).evs.flatMap evL) 112 11 :: .blk g39 ((ofB cpu l opn 0).cells A38 c38) 48 :: .row (.slice A40 ((([] : List Hb) ++ [(⟨ofB cpu l opn 0, A38, c38⟩ : Hb)]).length) c40) ((([] : List Hb) ++ [(⟨ofB cpu l opn 0, A38, c38⟩ : Hb)]).length) ((([] : List Hb) ++ [(⟨ofB cpu l opn 0, A38, c38⟩ : Hb)]).flatMap hbL) 48 5 :: hbF 112 [])) 3 [1, 0, 2] (by decide) (by decide) rfl) rfl
   replace HM : Mem w _ (.blk g39 ((ofB cpu l opn 0).cells A38 c38) 48 :: .row (.slice A40 ((([] : List Hb) ++ [(⟨ofB cpu l opn 0, A38, c38⟩ : Hb)]).length) c40) ((([] : List Hb) ++ [(⟨ofB cpu l opn 0, A38, c38⟩ : Hb)]).length) ((([] : List Hb) ++ [(⟨ofB cpu l opn 0, A38, c38⟩ : Hb)]).flatMap hbL) 48 5 :: hbF 112 (([] : List Hb) ++ [(⟨ofB cpu l opn 0, A38, c38⟩ : Hb)])) := HM
   refine wp_seq (wp_block ?_)
   replace HM := HM.picksT (fs' := (.row (.slice A40 ((([] : List Hb) ++ [(⟨ofB cpu l opn 0, A38, c38⟩ : Hb)]).length) c40) ((([] : List Hb) ++ [(⟨ofB cpu l opn 0, A38, c38⟩ : Hb)]).length) ((([] : List Hb) ++ [(⟨ofB cpu l opn 0, A38, c38⟩ : Hb)]).flatMap hbL) 48 5 :: hbF 112 (([] : List Hb) ++ [(⟨ofB cpu l opn 0, A38, c38⟩ : Hb)]))) 2 [1] (by decide) (by decide) rfl
   refine qs (fun mS aS wS => ∃ (z : Nat), mS = 0 + z ∧ Fr aS 71 [] [(40, .slice A40 ((([] : List Hb) ++ [(⟨ofB cpu l opn 0, A38, c38⟩ : Hb)]).length) c40), (10, .slice A40 ((([] : List Hb) ++ [(⟨ofB cpu l opn 0, A38, c38⟩ : Hb)]).length) c40), (33, .bool true), (26, .bool false), (21, .bool false), (9, vI 0), (8, .slice none 0 0), (0, vB cpu), (1, .slice A l.length c), (2, vI opn), (3, vI lim)] ∧ Mem w wS (.row (.slice A40 ((([] : List Hb) ++ [(⟨ofB cpu l opn 0, A38, c38⟩ : Hb)]).length) c40) ((([] : List Hb) ++ [(⟨ofB cpu l opn 0, A38, c38⟩ : Hb)]).length) ((([] : List Hb) ++ [(⟨ofB cpu l opn 0, A38, c38⟩ : Hb)]).flatMap hbL) 48 5 :: hbF 112 (([] : List Hb) ++ [(⟨ofB cpu l opn 0, A38, c38⟩ : Hb)]))) (m := 0 + 0) ⟨0, rfl, HF.sub (by kernel_rfl), HM.picksT 1 [0] (by decide) (by decide) rfl⟩ ?_
   clear HF HM; rintro mS a w_ ⟨z, rfl, HF, HM⟩
   refine wp_seq (wp_seq (qa ?_))
   refine fp HF 1 0 [(41, .slice A l.length c)] fun a HF => ?_
   refine fy HF HM 1 rfl rfl rfl (Yl.len rfl rfl (by kernel_rfl)) fun a HF => ?_
   refine fp HF 1 2 [(43, .bool (decide ((l.length : Int) > (0 : Int))))] fun a HF => ?_
   refine qb rfl ?_
   rcases HF.tf 43 rfl with ⟨hb43, HF⟩ | ⟨hb43, HF⟩
   ·
    have hd43 := of_decide_eq_true hb43
    exfalso; omega
   have hd43 := of_decide_eq_false hb43
   refine qd HF rfl (wp_exit (wp_seq (qa ?_)))
   refine fp HF 3 0 [(9, vI 0), (8, .slice A40 ((([] : List Hb) ++ [(⟨ofB cpu l opn 0, A38, c38⟩ : Hb)]).length) c40)] fun a HF => ?_
   refine qb rfl (wp_ret ?_)
   replace HM := HM.picksT (fs' := (.row (.slice A40 ((([] : List Hb) ++ [(⟨ofB cpu l opn 0, A38, c38⟩ : Hb)]).length) c40) ((([] : List Hb) ++ [(⟨ofB cpu l opn 0, A38, c38⟩ : Hb)]).length) ((([] : List Hb) ++ [(⟨ofB cpu l opn 0, A38, c38⟩ : Hb)]).flatMap hbL) 48 5 :: hbF 112 (([] : List Hb) ++ [(⟨ofB cpu l opn 0, A38, c38⟩ : Hb)]))) 1 [0] (by decide) (by decide) rfl
   exact ret2 rfl HF (.tmp HF rfl) (.tmp HF rfl) (by rw [qmg (by omega) hgood (by omega) (by omega), show (⟨1, cpu, opn, 0, []⟩ : Bk) = ofB cpu l opn 0 from (qwp (by omega)).symm]; exact qn9 HM hc40)
  have hd33 := of_decide_eq_false hb33
  refine qd HF rfl (wp_skip (wp_seq (wp_block ?_)))
  refine qs (fun mS aS wS => ∃ (z : Nat), mS = 0 + z ∧ Fr aS 71 [] [(33, .bool false), (10, .slice none 0 0), (26, .bool false), (21, .bool false), (9, vI 0), (8, .slice none 0 0), (0, vB cpu), (1, .slice A l.length c), (2, vI opn), (3, vI lim)] ∧ Mem w wS (.row (.slice none 0 0) 0 [] 48 5 :: hbF 112 [])) (m := 0 + 0) ⟨0, rfl, HF.sub (by kernel_rfl), HM.picksT 1 [0] (by decide) (by decide) rfl⟩ ?_
  clear HF HM; rintro mS a w_ ⟨z, rfl, HF, HM⟩
  refine wp_seq (wp_seq (qa ?_))
  refine fp HF 1 0 [(41, .slice A l.length c)] fun a HF => ?_
  refine fy HF HM 1 rfl rfl rfl (Yl.len rfl rfl (by kernel_rfl)) fun a HF => ?_
  refine fp HF 1 2 [(43, .bool (decide ((l.length : Int) > (0 : Int))))] fun a HF => ?_
  refine qb rfl ?_
  rcases HF.tf 43 rfl with ⟨hb43, HF⟩ | ⟨hb43, HF⟩
  ·
   have hd43 := of_decide_eq_true hb43
   exfalso; omega
  have hd43 := of_decide_eq_false hb43
  refine qd HF rfl (wp_exit (wp_seq (qa ?_)))
  refine fp HF 3 0 [(9, vI 0), (8, .slice none 0 0)] fun a HF => ?_
  refine qb rfl (wp_ret ?_)
  exact ret2 rfl HF (.tmp HF rfl) (.tmp HF rfl) (by rw [qmf (by omega) hgood (by omega) (by omega)]; exact qb0 HM rfl)
 have hd30 := ne_of_beq_false hb30
 refine fp HF 3 4 [(33, .bool false)] fun a HF => ?_
 refine qb rfl (qd HF rfl (wp_skip (wp_seq (wp_block ?_))))
 refine qs (fun mS aS wS => ∃ (r : List It) (X : Option Addr) (cc : Nat) (q : List Hb) (f : Nat) (Ao : Option Addr) (co : Nat), (Rd w w.heap.size 12 X r.length (r.flatMap itL)) ∧ (r.length ≤ cc) ∧ (GoodI cpu r opn) ∧ (r.length ≤ l.length) ∧ (r.length ≤ f) ∧ (q.map Hb.b ++ cutGo cpu opn lim f r = cutGo cpu opn lim l.length l) ∧ (q.length ≤ co) ∧ (q.length + r.length ≤ l.length) ∧ mS = r.length ∧ Fr aS 71 [] [(33, .bool false), (10, .slice Ao q.length co), (26, .bool false), (21, .bool false), (9, vI 0), (8, .slice none 0 0), (0, vB cpu), (1, .slice X r.length cc), (2, vI opn), (3, vI lim)] ∧ Mem w wS (.row (.slice Ao q.length co) q.length (q.flatMap hbL) 48 5 :: hbF 112 q)) (m := l.length) ⟨l, A, c, [], l.length, none, 0, hr, by omega, hG, by omega, Nat.le_refl _, List.nil_append _, Nat.le_refl _, by simp, rfl, HF.sub (by kernel_rfl), HM.picksT 1 [0] (by decide) (by decide) rfl⟩ ?_
 clear HF HM; rintro mS a w_ ⟨r, X, cc, q, f, Ao, co, hX, hcc, hGr, hrn, hf, hq, hco, hql, rfl, HF, HM⟩
 refine wp_seq (wp_seq (qa ?_))
 refine fp HF 1 0 [(41, .slice X r.length cc)] fun a HF => ?_
 refine fy HF HM 1 rfl rfl rfl (Yl.len rfl rfl (by kernel_rfl)) fun a HF => ?_
 refine fp HF 1 2 [(43, .bool (decide ((r.length : Int) > (0 : Int))))] fun a HF => ?_
 refine qb rfl ?_
 rcases HF.tf 43 rfl with ⟨hb43, HF⟩ | ⟨hb43, HF⟩
 ·
  have hd43 := of_decide_eq_true hb43
  have hr0 : 0 < r.length := by omega
  obtain ⟨m0, hm0⟩ : ∃ m, m = min r.length lim := ⟨_, rfl⟩
  obtain ⟨hcp, hcl, hce⟩ := qk1 hGr (limit := lim) (by omega) hr0
  have hst := qgi (cpu := cpu) (limit := lim) (opn := opn) hr0 (f := f) (by omega)
  have hcd : cutN cpu r opn lim = qav (fun n => decide ((ofB cpu r opn n).err = 0)) m0 := by rw [hm0]; rfl
  refine qe HF rfl (wp_skip (wp_block (wp_seq (qa ?_))))
  refine fp HF 1 0 [(44, .slice X r.length cc)] fun a HF => ?_
  refine fy HF HM 1 rfl rfl rfl (Yl.len rfl rfl (by kernel_rfl)) fun a HF => ?_
  refine fp HF 1 2 [(11, vI r.length)] fun a HF => ?_
  refine qb rfl ?_
  refine qax (fun aS wS => Fr aS 71 [] [(11, vI m0), (43, .bool true), (33, .bool false), (10, .slice Ao q.length co), (26, .bool false), (21, .bool false), (9, vI 0), (8, .slice none 0 0), (0, vB cpu), (1, .slice X r.length cc), (2, vI opn), (3, vI lim)] ∧ Mem w wS (.row (.slice Ao q.length co) q.length (q.flatMap hbL) 48 5 :: hbF 112 q)) ?_ ?_
  ·
   refine wp_seq (qa ?_)
   refine fp HF 3 0 [(48, .bool (decide ((r.length : Int) > (lim : Int))))] fun a HF => ?_
   refine qb rfl ?_
   rcases HF.tf 48 rfl with ⟨hb48, HF⟩ | ⟨hb48, HF⟩
   ·
    have hd48 := of_decide_eq_true hb48
    refine qe HF rfl (qa ?_)
    refine fp HF 2 0 [(11, vI lim)] fun a HF => ?_
    refine qb rfl ?_
    have HF := HF.as (t := 11) (u := vI m0) rfl (by congr 1; omega)
    exact ⟨HF.sub (by kernel_rfl), HM.picksT 1 [0] (by decide) (by decide) rfl⟩
   have hd48 := of_decide_eq_false hb48
   refine qd HF rfl (wp_skip ?_)
   have HF := HF.as (t := 11) (u := vI m0) rfl (by congr 1; omega)
   exact ⟨HF.sub (by kernel_rfl), HM.picksT 1 [0] (by decide) (by decide) rfl⟩
  clear HF HM; rintro a wM48 ⟨HF, HM⟩
  refine wp_seq (wp_block ?_)
  refine qs (fun mS aS wS => ∃ (m : Nat), (m ≤ r.length) ∧ (cutN cpu r opn lim ≤ m) ∧ (cutN cpu r opn lim = qav (fun n => decide ((ofB cpu r opn n).err = 0)) m) ∧ mS = 0 + m ∧ Fr aS 71 [] [(11, vI m), (43, .bool true), (33, .bool false), (10, .slice Ao q.length co), (26, .bool false), (21, .bool false), (9, vI 0), (8, .slice none 0 0), (0, vB cpu), (1, .slice X r.length cc), (2, vI opn), (3, vI lim)] ∧ Mem w wS (.row (.slice Ao q.length co) q.length (q.flatMap hbL) 48 5 :: hbF 112 q)) (m := 0 + m0) ⟨m0, by omega, by rw [hcd]; exact qcs _ _, hcd, rfl, HF.sub (by kernel_rfl), HM.picksT 1 [0] (by decide) (by decide) rfl⟩ ?_
  clear HF HM; rintro mS a w_ ⟨m, hm, hmc, hdn, rfl, HF, HM⟩
  refine wp_seq (wp_seq (qa ?_))
  refine fp HF 4 0 [(53, vI m), (52, vI opn), (51, .slice X r.length cc), (50, vB cpu)] fun a HF => ?_
  refine fo HF 4 rfl rfl ?_
  refine e_cl HF [vB cpu, .slice X r.length cc, vI opn, vI m] rfl rfl (qin cpu X r.length cc r opn m hGr (by omega) _ (HM.old hX) rfl (by omega)) ?_
  rintro _ w54 ⟨⟨A54, c54, rfl, ho, hc54⟩, hbw⟩
  refine ⟨_, rfl, ?_⟩
  replace HM := HM.callRow hbw ho
  clear HF; intro a HF
  refine fo HF 5 rfl rfl ?_
  refine e_is HF HM [.agg ((ofB cpu r opn m).cells A54 c54)] (vI ((ofB cpu r opn m).err)) rfl rfl (qim (ofB cpu r opn m) (qtv hGr m) A54 c54 _ (HM.rd (i := 0) rfl) (by rw [qbw (by omega)]; omega)) fun w55 hbw HM a HF => ?_
  refine fp HF 1 6 [(56, .bool (((ofB cpu r opn m).err : Int) != (0 : Int)))] fun a HF => ?_
  refine qb rfl ?_
  rcases HF.tf 56 rfl with ⟨hb56, HF⟩ | ⟨hb56, HF⟩
  ·
   have hd56 := bne_iff_ne.1 hb56
   have hdd := qh8 (p := (fun n => decide ((ofB cpu r opn n).err = 0))) (m := m) (by rw [decide_eq_false_iff_not]; omega) (by omega)
   have hle := qcs (fun n => decide ((ofB cpu r opn n).err = 0)) (m - 1)
   refine qe HF rfl (wp_skip (wp_block (qa ?_)))
   refine fp HF 2 0 [(58, vI (IntKind.i64.wrap ((m : Int) - 1)))] fun a HF => ?_
   replace HF := HF.sp 58 (vI (m - 1 : Nat)) rfl (qi (by omega) (by omega))
   refine fp HF 1 2 [(11, vI (m - 1 : Nat))] fun a HF => ?_
   refine qb rfl ?_
   exact ⟨_, (by omega), (m - 1), by omega, by rw [hdn, hdd]; exact hle, hdn.trans hdd, rfl, HF.sub (by kernel_rfl), HM.picksT 2 [1] (by decide) (by decide) rfl⟩
  have hd56 := bne_eq_false_iff_eq.1 hb56
  have hhere := qh9 (p := (fun n => decide ((ofB cpu r opn n).err = 0))) (m := m) (by rw [decide_eq_true_eq]; omega)
  rw [hdn, hhere] at hst
  refine qd HF rfl (wp_exit (wp_seq (qa ?_)))
  refine fp HF 5 0 [(63, vI m), (62, vI opn), (61, .slice X r.length cc), (60, vB cpu), (59, .slice Ao q.length co)] fun a HF => ?_
  refine fo HF 5 rfl rfl ?_
  refine e_cl HF [vB cpu, .slice X r.length cc, vI opn, vI m] rfl rfl (qin cpu X r.length cc r opn m hGr (by omega) _ (HM.old hX) rfl (by omega)) ?_
  rintro _ w64 ⟨⟨A64, c64, rfl, ho, hc64⟩, hbw⟩
  refine ⟨_, rfl, ?_⟩
  replace HM := HM.callRow hbw ho
  clear HF; intro a HF
  refine fo HF 6 rfl rfl ?_
  refine ze HF HM (vs := [(0, .agg ((ofB cpu r opn m).cells A64 c64))]) (cs := ((ofB cpu r opn m).cells A64 c64)) rfl qib (by decide) rfl (by kernel_rfl) rfl (by decide) ?_
  clear HF HM; intro a w65 g65 HF HM
  refine fo HF 7 rfl rfl ?_
  refine qu HF HM (i := 3) rfl qib rfl rfl rfl (news := (hbL (⟨ofB cpu r opn m, A64, c64⟩ : Hb))) (HM.rdBlk (i := 0) (n := 1) (size := 5) rfl rfl) (qbk _ _ _) (by omega) (by omega) rfl (by decide) ?_
  clear HF HM; intro a w66 A66 c66 HF HM hc66
  refine fp HF 1 8 [(10, .slice A66 (q.length + 1) c66)] fun a HF => ?_
  refine qb rfl ?_
  have hnA66 : q.length + 1 = (q ++ [(⟨ofB cpu r opn m, A64, c64⟩ : Hb)]).length := by rw [List.length_append]; rfl
  replace HM := HM.reRow (i := 3) (ys := (q ++ [(⟨ofB cpu r opn m, A64, c64⟩ : Hb)]).flatMap hbL) rfl hnA66 (by rw [List.flatMap_append, List.flatMap_cons, List.flatMap_nil, List.append_nil])
  rw [hnA66] at hc66
  replace HF := HF.as (t := 10) (u := .slice A66 ((q ++ [(⟨ofB cpu r opn m, A64, c64⟩ : Hb)]).length) c66) rfl (by rw [hnA66])
  replace HF := HF.as (t := 66) (u := .slice A66 ((q ++ [(⟨ofB cpu r opn m, A64, c64⟩ : Hb)]).length) c66) rfl (by rw [hnA66])
  replace HM := Mem.qy5 (a := [.blk g65 ((ofB cpu r opn m).cells A64 c64) 48, .row (.slice A54 ((ofB cpu r opn m).evs.length) c54) ((ofB cpu r opn m).evs.length) ((ofB cpu r opn m).evs.flatMap evL) 112 11, .row (.slice A66 ((q ++ [(⟨ofB cpu r opn m, A64, c64⟩ : Hb)]).length) c66) ((q ++ [(⟨ofB cpu r opn m, A64, c64⟩ : Hb)]).length) ((q ++ [(⟨ofB cpu r opn m, A64, c64⟩ : Hb)]).flatMap hbL) 48 5]) (q := q) (HM.picksT (fs' := (.row (.slice A64 ((ofB cpu r opn m).evs.length) c64) ((ofB cpu r opn m).evs.length) ((ofB cpu r opn m).evs.flatMap evL) 112 11 :: .blk g65 ((ofB cpu r opn m).cells A64 c64) 48 :: .row (.slice A54 ((ofB cpu r opn m).evs.length) c54) ((ofB cpu r opn m).evs.length) ((ofB cpu r opn m).evs.flatMap evL) 112 11 :: .row (.slice A66 ((q ++ [(⟨ofB cpu r opn m, A64, c64⟩ : Hb)]).length) c66) ((q ++ [(⟨ofB cpu r opn m, A64, c64⟩ : Hb)]).length) ((q ++ [(⟨ofB cpu r opn m, A64, c64⟩ : Hb)]).flatMap hbL) 48 5 :: hbF 112 q)) 4 [1, 0, 2, 3] (by decide) (by decide) rfl) rfl
  replace HM : Mem w _ (.blk g65 ((ofB cpu r opn m).cells A64 c64) 48 :: .row (.slice A54 ((ofB cpu r opn m).evs.length) c54) ((ofB cpu r opn m).evs.length) ((ofB cpu r opn m).evs.flatMap evL) 112 11 :: .row (.slice A66 ((q ++ [(⟨ofB cpu r opn m, A64, c64⟩ : Hb)]).length) c66) ((q ++ [(⟨ofB cpu r opn m, A64, c64⟩ : Hb)]).length) ((q ++ [(⟨ofB cpu r opn m, A64, c64⟩ : Hb)]).flatMap hbL) 48 5 :: hbF 112 (q ++ [(⟨ofB cpu r opn m, A64, c64⟩ : Hb)])) := HM
  refine qa ?_
  refine fp HF 2 0 [(68, vI m), (67, .slice X r.length cc)] fun a HF => ?_
  refine fy HF HM 2 rfl rfl rfl (v := .slice (if cc = m then X else X.map (·.add (m * 12))) (r.length - m) (cc - m)) (Yl.sliceFrom qtz (j := m) rfl rfl rfl (by omega)) fun a HF => ?_
  replace HF := HF.sp 69 (.slice (if cc = m then X else X.map (·.add (m * 12))) ((r.drop m).length) (cc - m)) rfl (by rw [List.length_drop])
  refine fp HF 1 3 [(1, .slice (if cc = m then X else X.map (·.add (m * 12))) ((r.drop m).length) (cc - m))] fun a HF => ?_
  refine qb rfl ?_
  exact ⟨_, (by rw [List.length_drop]; omega), (r.drop m), if cc = m then X else X.map (·.add (m * 12)), cc - m, (q ++ [(⟨ofB cpu r opn m, A64, c64⟩ : Hb)]), (f - 1), A66, c66, Rd.q0e qaq hX (by omega) hcc, by rw [List.length_drop]; omega, hGr.drop m, by rw [List.length_drop]; omega, by rw [List.length_drop]; omega, by rw [← hq, hst, List.map_append, List.append_assoc]; rfl, hc66, by rw [List.length_append, List.length_drop, List.length_singleton]; omega, rfl, HF.sub (by kernel_rfl), HM.picksT 3 [2] (by decide) (by decide) rfl⟩
 have hd43 := of_decide_eq_false hb43
 have hq2 : q.map Hb.b = cutGo cpu opn lim l.length l := by rw [← hq, qh7 (by omega), List.append_nil]
 refine qd HF rfl (wp_exit (wp_seq (qa ?_)))
 refine fp HF 3 0 [(9, vI 0), (8, .slice Ao q.length co)] fun a HF => ?_
 refine qb rfl (wp_ret ?_)
 replace HM := HM.picksT (fs' := (.row (.slice Ao q.length co) q.length (q.flatMap hbL) 48 5 :: hbF 112 q)) 1 [0] (by decide) (by decide) rfl
 exact ret2 rfl HF (.tmp HF rfl) (.tmp HF rfl) (by rw [qmh (by omega) hgood (by omega), ← hq2]; exact qn9 HM hco)
theorem qak : SI Tryz.prog 71 2 := ⟨by kernel_rfl, by kernel_rfl⟩
theorem qnc (A : Option Addr) (c : Nat) (q : List Hb) (w : World) (hr : Rd w w.heap.size 5 A q.length (q.flatMap hbL)) (hQ : HbRd w q) (hok : ∀ h ∈ q, h.b.Ok) (hev : ∀ h ∈ q, h.b.evs.length ≤ 1000000) (hn : q.length ≤ 1000000) :
    Calls Tryz.prog 26 #[.slice A q.length c] w (qah w (zy (q.map Hb.b)).2 (zy (q.map Hb.b)).1) := by
 refine qg (vs := [.slice A q.length c]) Tryz.func26 rfl rfl (by kernel_rfl) (σ0 := [(0, .slice A q.length c)]) rfl ?_
 intro a HF
 have HM := Mem.start w
 refine wp_seq (qa ?_)
 refine fp HF 2 0 [(3, vI 0), (2, .slice none 0 0)] fun a HF => ?_
 refine qb rfl (wp_seq (qa ?_))
 refine fp HF 1 0 [(4, .slice none 0 0)] fun a HF => ?_
 refine qb rfl ?_
 replace HM := HM.nil 5 1
 refine wp_seq (wp_seq (qa ?_))
 refine fp HF 1 0 [(5, vI 0)] fun a HF => ?_
 refine qb rfl (wp_block ?_)
 refine qs (fun mS aS wS => ∃ (k : Nat) (R : List Nat) (Ao : Option Addr) (co : Nat), (k ≤ q.length) ∧ (errL (q.map Hb.b) = errL ((q.drop k).map Hb.b)) ∧ (R = outsL ((q.take k).map Hb.b)) ∧ (R.length ≤ 4096 * k) ∧ (R.length ≤ co) ∧ mS = q.length - k ∧ Fr aS 32 [] [(5, vI k), (4, .slice Ao R.length co), (3, vI 0), (2, .slice none 0 0), (0, .slice A q.length c)] ∧ Mem w wS [.row (.slice Ao R.length co) R.length (R.map B8) 5 1]) (m := q.length - 0) ⟨0, [], none, 0, Nat.zero_le _, by rw [List.drop_zero], rfl, by simp, Nat.le_refl _, rfl, HF.sub (by kernel_rfl), HM.picks [0] (by decide) rfl⟩ ?_
 clear HF HM; rintro mS a w_ ⟨k, R, Ao, co, hk, her, hR, hRl, hco, rfl, HF, HM⟩
 refine wp_seq (wp_seq (qa ?_))
 refine fp HF 2 0 [(9, .slice A q.length c), (8, vI k)] fun a HF => ?_
 refine fy HF HM 2 rfl rfl rfl (Yl.len rfl rfl (by kernel_rfl)) fun a HF => ?_
 refine fp HF 1 3 [(11, .bool (decide ((k : Int) < (q.length : Int))))] fun a HF => ?_
 refine qb rfl ?_
 rcases HF.tf 11 rfl with ⟨hb11, HF⟩ | ⟨hb11, HF⟩
 ·
  have hd11 := of_decide_eq_true hb11
  have hk11 : k < q.length := by omega
  have hol := qn6 (q.getD k Hb.zero).b
  refine qe HF rfl (wp_skip (wp_seq (wp_block (wp_seq (qa ?_)))))
  refine fp HF 2 0 [(16, vI k), (15, .slice A q.length c)] fun a HF => ?_
  obtain ⟨gA, oA, rfl, _⟩ := hr.qy (Nat.lt_of_le_of_lt (Nat.zero_le _) (show k < q.length from by omega)) (by decide)
  refine fy HF HM 2 rfl rfl rfl (v := vP gA (oA + k * 5)) (Yl.ix gA oA k 5 rfl rfl rfl) fun a HF => ?_
  refine fy HF HM 3 rfl rfl rfl (v := .agg ((q.getD k Hb.zero).b.cells (q.getD k Hb.zero).A (q.getD k Hb.zero).c)) (Yl.zc rfl rfl qb8 rfl (fun _ h => (h.old hr).zt qcb ((getD_at Hb.zero (k := k) (by first | omega | (simp; omega)))))) fun a HF => ?_
  refine fo HF 4 rfl rfl ?_
  refine e_cl HF [.agg ((q.getD k Hb.zero).b.cells (q.getD k Hb.zero).A (q.getD k Hb.zero).c)] rfl rfl (qoq (q.getD k Hb.zero).b (hok _ (qal Hb.zero hk11)) ((q.getD k Hb.zero).A) (q.getD k Hb.zero).c _ (HM.old (hQ.at hk11)) (hev _ (qal Hb.zero hk11))) ?_
  rintro _ w19 ⟨⟨A19, c19, rfl, ho, hc19⟩, hbw⟩
  refine ⟨_, rfl, ?_⟩
  replace HM := HM.callRow hbw ho
  clear HF; intro a HF
  refine fp HF 5 5 [(7, vI ((q.getD k Hb.zero).b.err)), (6, .slice A19 ((q.getD k Hb.zero).b.out.length) c19)] fun a HF => ?_
  refine qb rfl (wp_seq (wp_seq (qa ?_)))
  refine fp HF 2 0 [(23, .bool (((q.getD k Hb.zero).b.err : Int) != (0 : Int)))] fun a HF => ?_
  refine qb rfl ?_
  rcases HF.tf 23 rfl with ⟨hb23, HF⟩ | ⟨hb23, HF⟩
  ·
   have hd23 := bne_iff_ne.1 hb23
   have hE := qyp hk11 her (by omega)
   refine qe HF rfl (wp_seq (qa ?_))
   refine fp HF 3 0 [(3, vI ((q.getD k Hb.zero).b.err)), (2, .slice none 0 0)] fun a HF => ?_
   refine qb rfl (wp_ret ?_)
   exact ret2 rfl HF (.tmp HF rfl) (.tmp HF rfl) (qem HM.below (qju (by rw [hE]; omega)) (by rw [hE]))
  have hd23 := bne_eq_false_iff_eq.1 hb23
  have hE := qyq hk11 her (by omega)
  refine qd HF rfl (wp_skip (qa ?_))
  refine fp HF 2 0 [(26, .slice A19 ((q.getD k Hb.zero).b.out.length) c19), (25, .slice Ao R.length co)] fun a HF => ?_
  refine fo HF 2 rfl rfl ?_
  refine qu HF HM (i := 1) rfl ei_u8 rfl rfl rfl (news := ((q.getD k Hb.zero).b.out.map B8)) (HM.rd (i := 0) rfl) (qa2 _) (by omega) (by omega) rfl (by decide) ?_
  clear HF HM; intro a w27 A27 c27 HF HM hc27
  rw [show (R.map B8) ++ ((q.getD k Hb.zero).b.out.map B8) = (R ++ (q.getD k Hb.zero).b.out).map B8 from by rw [List.map_append]] at HM
  refine fp HF 1 3 [(4, .slice A27 (R.length + ((q.getD k Hb.zero).b.out.length)) c27)] fun a HF => ?_
  refine qb rfl ?_
  have hnA27 : R.length + ((q.getD k Hb.zero).b.out.length) = (R ++ (q.getD k Hb.zero).b.out).length := by rw [List.length_append]
  replace HM := HM.reRow (i := 1) (ys := (R ++ (q.getD k Hb.zero).b.out).map B8) rfl hnA27 (rfl)
  rw [hnA27] at hc27
  replace HF := HF.as (t := 4) (u := .slice A27 ((R ++ (q.getD k Hb.zero).b.out).length) c27) rfl (by rw [hnA27])
  replace HF := HF.as (t := 27) (u := .slice A27 ((R ++ (q.getD k Hb.zero).b.out).length) c27) rfl (by rw [hnA27])
  refine qa ?_
  refine fp HF 2 0 [(13, vI (IntKind.i64.wrap ((k : Int) + 1)))] fun a HF => ?_
  replace HF := HF.sp 13 (vI (k + 1 : Nat)) rfl (qi (by omega) (by omega))
  refine fp HF 1 2 [(5, vI (k + 1 : Nat))] fun a HF => ?_
  refine qb rfl ?_
  exact ⟨_, (by omega), k + 1, (R ++ (q.getD k Hb.zero).b.out), A27, c27, by omega, hE, by rw [hR, quf hk11], by rw [List.length_append]; omega, hc27, rfl, HF.sub (by kernel_rfl), HM.picks [1] (by decide) rfl⟩
 have hd11 := of_decide_eq_false hb11
 have hdn : errL (q.map Hb.b) = 0 := by rw [her, List.drop_of_length_le (by omega)]; rfl
 rw [List.take_of_length_le (by omega : q.length ≤ k)] at hR
 refine qd HF rfl (wp_exit (wp_seq (wp_seq (qa ?_))))
 refine fp HF 1 0 [(28, .slice Ao R.length co)] fun a HF => ?_
 refine fy HF HM 1 rfl rfl rfl (Yl.len rfl rfl (by kernel_rfl)) fun a HF => ?_
 refine fp HF 1 2 [(30, .bool (decide ((R.length : Int) > (524288 : Int))))] fun a HF => ?_
 refine qb rfl ?_
 rcases HF.tf 30 rfl with ⟨hb30, HF⟩ | ⟨hb30, HF⟩
 ·
  have hd30 := of_decide_eq_true hb30
  have hlong : 524288 < (outsL (q.map Hb.b)).length := by rw [← hR]; omega
  refine qe HF rfl (wp_seq (qa ?_))
  refine fp HF 2 0 [(3, vI 3), (2, .slice none 0 0)] fun a HF => ?_
  refine qb rfl (wp_ret ?_)
  exact ret2 rfl HF (.tmp HF rfl) (.tmp HF rfl) (qem HM.below (qie hdn hlong) rfl)
 have hd30 := of_decide_eq_false hb30
 have hlong : ¬ 524288 < (outsL (q.map Hb.b)).length := by rw [← hR]; omega
 refine qd HF rfl (wp_skip (wp_seq (qa ?_)))
 refine fp HF 3 0 [(3, vI 0), (2, .slice Ao R.length co)] fun a HF => ?_
 refine qb rfl (wp_ret ?_)
 exact ret2 rfl HF (.tmp HF rfl) (.tmp HF rfl) (by rw [qmr hdn hlong, ← hR]; exact ⟨⟨Ao, co, rfl, HM.own (i := 0) rfl, hco⟩, HM.below⟩)
theorem qio (A : Option Addr) (c : Nat) (q : List Hb) (w : World) (hr : Rd w w.heap.size 5 A q.length (q.flatMap hbL)) (hQ : HbRd w q) (hok : ∀ h ∈ q, h.b.Ok) (hev : ∀ h ∈ q, h.b.evs.length ≤ 1000000) (hn : q.length ≤ 1000000) {R : List Nat} {er : Nat} (h : zy (q.map Hb.b) = (R, er)) :
  Calls Tryz.prog 26 #[.slice A q.length c] w (qah w er R) := by
 have h1 := qnc A c q w hr hQ hok hev hn
 rw [h] at h1
 exact h1
theorem qla (W w : World) (lim : Int) (A : Option Addr) (c : Nat) (out : List Nat) (fs : List Fact) (HW : Mem W w (.row (.slice A out.length c) out.length (out.map B8) 5 1 :: fs)) (hc : out.length ≤ c) (hout : out.length ≤ 524288) (A2 : Option Addr) (c2 : Nat) (q : List Hb) (hr : Rd w w.heap.size 5 A2 q.length (q.flatMap hbL)) (hQ : HbRd w q) (hok : ∀ h ∈ q, h.b.Ok) (hev : ∀ h ∈ q, h.b.evs.length ≤ 1000000) (hn : q.length ≤ 1000000) :
    Calls Tryz.prog 55 #[.agg #[.int .i64 lim, .slice A out.length c], .slice A2 q.length c2] w (WrR1 W lim (zk out (q.map Hb.b)).1 fs (zk out (q.map Hb.b)).2) := by
 have hrA := HW.rd (i := 0) rfl
 refine qg (vs := [.agg #[vI lim, .slice A out.length c], .slice A2 q.length c2]) Tryz.func55 rfl rfl (by kernel_rfl) (σ0 := [(0, .agg #[vI lim, .slice A out.length c]), (1, .slice A2 q.length c2)]) rfl ?_
 intro a HF
 have HM := Mem.start w
 refine wp_seq (qa ?_)
 refine fo HF 0 rfl rfl ?_
 refine e_box HF HM (cs := #[vI lim, .slice A out.length c]) rfl rfl rfl rfl (by decide) ?_
 clear HF HM; intro a w2 g2 HF HM
 refine fo HF 1 rfl rfl ?_
 refine qt HF HM (cs := #[vI 0, .slice none 0 0]) rfl (by kernel_rfl) rfl (by decide) ?_
 clear HF HM; intro a w4 g4 HF HM
 refine fp HF 1 2 [(5, vI 0)] fun a HF => ?_
 refine qb rfl ?_
 obtain ⟨R, er, hws⟩ : ∃ R er, zy (q.map Hb.b) = (R, er) := ⟨_, _, rfl⟩
 have hRl : R.length ≤ 524288 := by have h := qjv (q.map Hb.b); rw [hws] at h; exact h
 refine wp_seq (qa ?_)
 refine fp HF 1 0 [(9, .slice A2 q.length c2)] fun a HF => ?_
 refine fo HF 1 rfl rfl ?_
 refine e_cl HF [.slice A2 q.length c2] rfl rfl (qio A2 c2 q _ (HM.old hr) (HbRd.old hQ HM) hok hev hn hws) ?_
 rintro _ w10 ⟨⟨A10, c10, rfl, ho, hc10⟩, hbw⟩
 refine ⟨_, rfl, ?_⟩
 replace HM := HM.callRow hbw ho
 clear HF; intro a HF
 refine fp HF 5 2 [(7, vI er), (6, .slice A10 R.length c10)] fun a HF => ?_
 refine qb rfl (wp_seq (wp_seq (qa ?_)))
 refine fp HF 2 0 [(14, .bool ((er : Int) != (0 : Int)))] fun a HF => ?_
 refine qb rfl ?_
 rcases HF.tf 14 rfl with ⟨hb14, HF⟩ | ⟨hb14, HF⟩
 ·
  have hd14 := bne_iff_ne.1 hb14
  refine qe HF rfl (wp_seq (qa ?_))
  refine fy HF HM 0 rfl rfl rfl (v := .agg #[vI lim, .slice A out.length c]) (Yl.zc rfl rfl qak rfl (fun _ h => qf (h.blk (i := 2) rfl))) fun a HF => ?_
  refine fp HF 1 1 [(16, vI er)] fun a HF => ?_
  refine fo HF 2 rfl rfl ?_
  refine e_sa HF HM 1 rfl rfl rfl rfl rfl qak rfl rfl (by simp [Value.oneCell']) ?_
  clear HM; intro w3_2 HM
  refine fp HF 1 3 [(5, vI er)] fun a HF => ?_
  refine qb rfl (wp_ret ?_)
  exact ret2 rfl HF (.cellS (i := 1) HF HM rfl rfl qak rfl) (.tmp HF rfl) (qk6 (qif hws (by omega)) rfl hc (HW.call HM.below))
 have hd14 := bne_eq_false_iff_eq.1 hb14
 refine qd HF rfl (wp_skip (wp_seq (wp_seq (qa ?_))))
 refine fp HF 1 0 [(17, vP g2 1)] fun a HF => ?_
 refine fy HF HM 1 rfl rfl rfl (Yl.qh rfl rfl (by kernel_rfl) (fun _ h => h.cell (i := 2) rfl rfl)) fun a HF => ?_
 refine fy HF HM 2 rfl rfl rfl (Yl.len rfl rfl (by kernel_rfl)) fun a HF => ?_
 refine fp HF 1 3 [(20, .slice A10 R.length c10)] fun a HF => ?_
 refine fy HF HM 4 rfl rfl rfl (Yl.len rfl rfl (by kernel_rfl)) fun a HF => ?_
 refine fp HF 1 5 [(22, vI (IntKind.i64.wrap ((out.length : Int) + (R.length : Int))))] fun a HF => ?_
 replace HF := HF.sp 22 (vI (out.length + R.length : Nat)) rfl (qi (by omega) (by omega))
 refine fp HF 1 6 [(23, .bool (decide (((out.length + R.length : Nat) : Int) > (524288 : Int))))] fun a HF => ?_
 refine qb rfl ?_
 rcases HF.tf 23 rfl with ⟨hb23, HF⟩ | ⟨hb23, HF⟩
 ·
  have hd23 := of_decide_eq_true hb23
  refine qe HF rfl (wp_seq (qa ?_))
  refine fy HF HM 0 rfl rfl rfl (v := .agg #[vI lim, .slice A out.length c]) (Yl.zc rfl rfl qak rfl (fun _ h => qf (h.blk (i := 2) rfl))) fun a HF => ?_
  refine fo HF 1 rfl rfl ?_
  refine e_sa HF HM 1 rfl rfl rfl rfl rfl qak rfl rfl (by simp [Value.oneCell']) ?_
  clear HM; intro w5_1 HM
  refine fp HF 1 2 [(5, vI 3)] fun a HF => ?_
  refine qb rfl (wp_ret ?_)
  exact ret2 rfl HF (.cellS (i := 1) HF HM rfl rfl qak rfl) (.tmp HF rfl) (qk6 (qgy hws (by omega) (by omega)) rfl hc (HW.call HM.below))
 have hd23 := of_decide_eq_false hb23
 refine qd HF rfl (wp_skip (wp_seq (qa ?_)))
 refine fo HF 0 rfl rfl ?_
 refine qkp HF HM rfl ei_u8 rfl (by decide) ?_
 clear HF HM; intro a w25 g25 HF HM
 refine fp HF 1 1 [(26, vP g2 1)] fun a HF => ?_
 refine fy HF HM 2 rfl rfl rfl (Yl.qh rfl rfl (by kernel_rfl) (fun _ h => h.cell (i := 3) rfl rfl)) fun a HF => ?_
 refine fo HF 3 rfl rfl ?_
 refine qu HF HM (i := 0) rfl ei_u8 rfl rfl rfl (news := (out.map B8)) (HM.old hrA) (qa2 _) (by omega) (by omega) rfl (by decide) ?_
 clear HF HM; intro a w28 A28 c28 HF HM hc28
 rw [show [] ++ (out.map B8) = out.map B8 from by rw [List.nil_append]] at HM
 refine fp HF 1 4 [(29, .slice A10 R.length c10)] fun a HF => ?_
 refine fo HF 5 rfl rfl ?_
 refine qu HF HM (i := 0) rfl ei_u8 rfl rfl rfl (news := (R.map B8)) (HM.rd (i := 1) rfl) (qa2 _) (by omega) (by omega) rfl (by decide) ?_
 clear HF HM; intro a w30 A30 c30 HF HM hc30
 rw [show (out.map B8) ++ (R.map B8) = (out ++ R).map B8 from by rw [List.map_append]] at HM
 refine fp HF 1 6 [(31, vP g2 1)] fun a HF => ?_
 refine fo HF 7 rfl rfl ?_
 refine zd HF HM (i := 3) rfl rfl rfl rfl (by kernel_rfl) rfl rfl (by simp) ?_
 clear HM; intro w6_7 HM
 refine qb rfl ?_
 have hnA30 : (0 + out.length) + R.length = (out ++ R).length := by rw [List.length_append, Nat.zero_add]
 replace HM := HM.reRow (i := 0) (ys := (out ++ R).map B8) rfl hnA30 (rfl)
 rw [hnA30] at hc30
 replace HF := HF.as (t := 30) (u := .slice A30 ((out ++ R).length) c30) rfl (by rw [hnA30])
 replace HM := HM.reBlk (i := 3) (ds := #[.int .i64 lim, .slice A30 (out ++ R).length c30]) rfl (by rw [hnA30]; rfl)
 refine wp_seq (qa ?_)
 refine fy HF HM 0 rfl rfl rfl (v := .agg #[vI lim, .slice A30 ((out ++ R).length) c30]) (Yl.zc rfl rfl qak rfl (fun _ h => qf (h.blk (i := 3) rfl))) fun a HF => ?_
 refine fo HF 1 rfl rfl ?_
 refine e_sa HF HM 2 rfl rfl rfl rfl rfl qak rfl rfl (by simp [Value.oneCell']) ?_
 clear HM; intro w7_1 HM
 refine fp HF 1 2 [(5, vI 0)] fun a HF => ?_
 refine qb rfl (wp_ret ?_)
 exact ret2 rfl HF (.cellS (i := 2) HF HM rfl rfl qak rfl) (.tmp HF rfl) (qk6 (qjx hws (by omega) (by omega)) rfl hc30 (HW.swapRow (HM.picks [0] (by decide) rfl)))
theorem qgz (W w : World) (lim : Int) (A : Option Addr) (c : Nat) (out : List Nat) (fs : List Fact) (HW : Mem W w (.row (.slice A out.length c) out.length (out.map B8) 5 1 :: fs)) (hc : out.length ≤ c) (hout : out.length ≤ 524288) (A2 : Option Addr) (c2 : Nat) (q : List Hb) (hr : Rd w w.heap.size 5 A2 q.length (q.flatMap hbL)) (hQ : HbRd w q) (hok : ∀ h ∈ q, h.b.Ok) (hev : ∀ h ∈ q, h.b.evs.length ≤ 1000000) (hn : q.length ≤ 1000000) {o2 : List Nat} {we : Nat} (h : zk out (q.map Hb.b) = (o2, we)) :
  Calls Tryz.prog 55 #[.agg #[.int .i64 lim, .slice A out.length c], .slice A2 q.length c2] w (WrR1 W lim o2 fs we) := by
 have h1 := qla W w lim A c out fs HW hc hout A2 c2 q hr hQ hok hev hn
 rw [h] at h1
 exact h1
theorem Mem.q0n {W w : World} {f : Fact} {a t fs : List Fact} (h : Mem W w ((a ++ (t ++ [])) ++ (f :: fs))) : Mem W w (f :: (a ++ (t ++ fs))) := by
 refine h.perm ?_
 rw [List.append_nil]
 exact List.perm_middle.trans (by rw [List.append_assoc])
theorem Mem.drop1 {W w : World} {f : Fact} {gs fs : List Fact} (h : Mem W w (f :: (gs ++ fs))) : Mem W w (f :: fs) := h.subl (List.Sublist.cons_cons _ (List.sublist_append_right gs fs))
theorem qu1 (cpu : Nat) (hcpu : cpu < 256) (A : Option Addr) (n c : Nat) (l : List It) (opn limit : Int) (hok : ∀ x ∈ l, x.Ok) (ho : I64 opn) (hlm : I64 limit) (w : World) (hr : Rd w w.heap.size 12 A n (l.flatMap itL)) (hc : n ≤ c) (hln : l.length = n) (hn : n ≤ 1000000) {bs : List Bk} {ce : Nat} (h : cutS cpu l opn limit = (bs, ce)) :
  Calls Tryz.prog 39 #[.int .u8 (cpu : Int), .slice A n c, .int .i64 opn, .int .i64 limit] w (qh0 112 48 w ce bs) := by
 have h1 := qrg cpu hcpu A n c l opn limit hok ho hlm w hr hc hln hn
 rw [h] at h1
 exact h1
theorem qri (W w : World) (lim : Int) (A : Option Addr) (c : Nat) (out : List Nat) (fs : List Fact) (HW : Mem W w (.row (.slice A out.length c) out.length (out.map B8) 5 1 :: fs)) (hc : out.length ≤ c) (hout : out.length ≤ 524288) (hlm : I64 lim) (cpu : Nat) (hcpu : cpu < 256) (A2 : Option Addr) (c2 : Nat) (l : List It) (opn : Int) (hok : ∀ x ∈ l, x.Ok) (ho : I64 opn) (hr : Rd w w.heap.size 12 A2 l.length (l.flatMap itL)) (hc2 : l.length ≤ c2) (hn : l.length ≤ 999999) :
    Calls Tryz.prog 30 #[.agg #[.int .i64 lim, .slice A out.length c], .int .u8 (cpu : Int), .slice A2 l.length c2, .int .i64 opn] w (WrR2 W lim (putW out lim cpu l opn).1 fs (putW out lim cpu l opn).2.1 (putW out lim cpu l opn).2.2) := by
 have hrA := HW.rd (i := 0) rfl
 refine qg (vs := [.agg #[vI lim, .slice A out.length c], vB cpu, .slice A2 l.length c2, vI opn]) Tryz.func30 rfl rfl (by kernel_rfl) (σ0 := [(0, .agg #[vI lim, .slice A out.length c]), (1, vB cpu), (2, .slice A2 l.length c2), (3, vI opn)]) rfl ?_
 intro a HF
 have HM := Mem.start w
 refine wp_seq (qa ?_)
 refine fo HF 0 rfl rfl ?_
 refine e_box HF HM (cs := #[vI lim, .slice A out.length c]) rfl rfl rfl rfl (by decide) ?_
 clear HF HM; intro a w4 g4 HF HM
 refine fo HF 1 rfl rfl ?_
 refine qt HF HM (cs := #[vI 0, .slice none 0 0]) rfl (by kernel_rfl) rfl (by decide) ?_
 clear HF HM; intro a w8 g8 HF HM
 refine fp HF 2 2 [(10, vI 0), (9, vI 0)] fun a HF => ?_
 refine qb rfl ?_
 obtain ⟨bs, ce, hcs⟩ : ∃ bs ce, cutS cpu l opn lim = (bs, ce) := ⟨_, _, rfl⟩
 obtain ⟨o2, we, hwb⟩ : ∃ o2 we, zk out bs = (o2, we) := ⟨_, _, rfl⟩
 refine wp_seq (qa ?_)
 refine fp HF 4 0 [(17, vP g4 0), (16, vI opn), (15, .slice A2 l.length c2), (14, vB cpu)] fun a HF => ?_
 refine fy HF HM 4 rfl rfl rfl (Yl.qh rfl rfl (by kernel_rfl) (fun _ h => h.cell (i := 1) rfl rfl)) fun a HF => ?_
 refine fo HF 5 rfl rfl ?_
 refine e_cl HF [vB cpu, .slice A2 l.length c2, vI opn, vI lim] rfl rfl (qu1 cpu hcpu A2 l.length c2 l opn lim hok ho hlm _ ((HM.old hr)) hc2 rfl (by omega) hcs) ?_
 rintro _ w19 ⟨Ac, cc, q, rfl, hqb, hcc, hm⟩
 have hql : bs.length = q.length := by rw [← hqb, List.length_map]
 rw [hql] at hm hcc ⊢
 refine ⟨_, rfl, ?_⟩
 replace HM := Mem.q0c (a := [.blk g8 #[vI 0, .slice none 0 0] 71, .blk g4 #[vI lim, .slice A out.length c] 71]) HM hm
 clear HF; intro a HF
 refine fp HF 5 6 [(12, vI ce), (11, .slice Ac q.length cc)] fun a HF => ?_
 refine qb rfl (wp_seq (wp_seq (qa ?_)))
 refine fp HF 2 0 [(23, .bool ((ce : Int) != (0 : Int)))] fun a HF => ?_
 refine qb rfl ?_
 rcases HF.tf 23 rfl with ⟨hb23, HF⟩ | ⟨hb23, HF⟩
 ·
  have hd23 := bne_iff_ne.1 hb23
  refine qe HF rfl (wp_seq (qa ?_))
  refine fy HF HM 0 rfl rfl rfl (v := .agg #[vI lim, .slice A out.length c]) (Yl.zc rfl rfl qak rfl (fun _ h => qf (h.blk (i := 2) rfl))) fun a HF => ?_
  refine fp HF 1 1 [(25, vI ce)] fun a HF => ?_
  refine fo HF 2 rfl rfl ?_
  refine e_sa HF HM 1 rfl rfl rfl rfl rfl qak rfl rfl (by simp [Value.oneCell']) ?_
  clear HM; intro w3_2 HM
  refine fp HF 2 3 [(10, vI ce), (9, vI 0)] fun a HF => ?_
  refine qb rfl (wp_ret ?_)
  exact ret3 rfl HF (.cellS (i := 1) HF HM rfl rfl qak rfl) (.tmp HF rfl) (.tmp HF rfl) (qoh (qmt hcs (by omega)) rfl rfl hc (HW.call HM.below))
 have hd23 := bne_eq_false_iff_eq.1 hb23
 have hww : zk out (q.map Hb.b) = (o2, we) := by rw [hqb]; exact hwb
 have hcg := qmw hcpu hok ho hcs
 have hqok : ∀ h ∈ q, h.b.Ok := fun h hh => (hcg.1 h.b (by rw [← hqb]; exact List.mem_map_of_mem hh))
 have hqev : ∀ h ∈ q, h.b.evs.length ≤ 1000000 := fun h hh => Nat.le_trans (hcg.2.1 h.b (by rw [← hqb]; exact List.mem_map_of_mem hh)) (by omega)
 have hbl := hcg.2.2
 replace HM : Mem W _ (.row (.slice A out.length c) out.length (out.map B8) 5 1 :: .row (.slice Ac q.length cc) q.length (q.flatMap hbL) 48 5 :: .blk g8 #[vI 0, .slice none 0 0] 71 :: .blk g4 #[vI lim, .slice A out.length c] 71 :: (hbF 112 q ++ (fs))) := Mem.q0n (a := [.row (.slice Ac q.length cc) q.length (q.flatMap hbL) 48 5, .blk g8 #[vI 0, .slice none 0 0] 71, .blk g4 #[vI lim, .slice A out.length c] 71]) (t := hbF 112 q) (HW.join HM)
 refine qd HF rfl (wp_skip (wp_seq (qa ?_)))
 refine fy HF HM 0 rfl rfl rfl (v := .agg #[vI lim, .slice A out.length c]) (Yl.zc rfl rfl qak rfl (fun _ h => qf (h.blk (i := 3) rfl))) fun a HF => ?_
 refine fp HF 1 1 [(28, .slice Ac q.length cc)] fun a HF => ?_
 refine fo HF 2 rfl rfl ?_
 refine e_cl HF [.agg #[vI lim, .slice A out.length c], .slice Ac q.length cc] rfl rfl (qgz W _ lim A c out _ (HM.picksT 4 [0, 1, 2, 3] (by decide) (by decide) rfl) hc hout Ac cc q (HM.rd (i := 1) rfl) (Mem.qw8 (a := [.row (.slice A out.length c) out.length (out.map B8) 5 1, .row (.slice Ac q.length cc) q.length (q.flatMap hbL) 48 5, .blk g8 #[vI 0, .slice none 0 0] 71, .blk g4 #[vI lim, .slice A out.length c] 71]) HM) hqok hqev (by omega) hww) ?_
 rintro _ w29 ⟨A29, c29, rfl, hc29, HM2⟩
 refine ⟨_, rfl, ?_⟩
 replace HM := HM2
 clear HF; intro a HF
 refine fp HF 3 3 [(31, vI we), (30, .agg #[vI lim, .slice A29 o2.length c29])] fun a HF => ?_
 refine fo HF 6 rfl rfl ?_
 refine e_sa HF HM 3 rfl rfl rfl rfl rfl qak rfl rfl (by simp [Value.oneCell']) ?_
 clear HM; intro w4_6 HM
 refine fp HF 1 7 [(12, vI we)] fun a HF => ?_
 refine qb rfl (wp_seq (wp_seq (qa ?_)))
 refine fp HF 2 0 [(33, .bool ((we : Int) != (0 : Int)))] fun a HF => ?_
 refine qb rfl ?_
 rcases HF.tf 33 rfl with ⟨hb33, HF⟩ | ⟨hb33, HF⟩
 ·
  have hd33 := bne_iff_ne.1 hb33
  refine qe HF rfl (wp_seq (qa ?_))
  refine fy HF HM 0 rfl rfl rfl (v := .agg #[vI lim, .slice A29 o2.length c29]) (Yl.zc rfl rfl qak rfl (fun _ h => qf (h.blk (i := 3) rfl))) fun a HF => ?_
  refine fp HF 1 1 [(35, vI we)] fun a HF => ?_
  refine fo HF 2 rfl rfl ?_
  refine e_sa HF HM 2 rfl rfl rfl rfl rfl qak rfl rfl (by simp [Value.oneCell']) ?_
  clear HM; intro w6_2 HM
  refine fp HF 2 3 [(10, vI we), (9, vI 0)] fun a HF => ?_
  refine qb rfl (wp_ret ?_)
  exact ret3 rfl HF (.cellS (i := 2) HF HM rfl rfl qak rfl) (.tmp HF rfl) (.tmp HF rfl) (qoh (qmu hcs (by omega) hwb (by omega)) rfl rfl hc29 (Mem.drop1 (HM.picksT 4 [0] (by decide) (by decide) rfl)))
 have hd33 := bne_eq_false_iff_eq.1 hb33
 refine qd HF rfl (wp_skip (wp_seq (qa ?_)))
 refine fy HF HM 0 rfl rfl rfl (v := .agg #[vI lim, .slice A29 o2.length c29]) (Yl.zc rfl rfl qak rfl (fun _ h => qf (h.blk (i := 3) rfl))) fun a HF => ?_
 refine fp HF 1 1 [(37, .slice Ac q.length cc)] fun a HF => ?_
 refine fy HF HM 2 rfl rfl rfl (Yl.len rfl rfl (by kernel_rfl)) fun a HF => ?_
 refine fo HF 3 rfl rfl ?_
 refine e_sa HF HM 2 rfl rfl rfl rfl rfl qak rfl rfl (by simp [Value.oneCell']) ?_
 clear HM; intro w7_3 HM
 refine fp HF 2 4 [(10, vI 0), (9, vI q.length)] fun a HF => ?_
 refine qb rfl (wp_ret ?_)
 exact ret3 rfl HF (.cellS (i := 2) HF HM rfl rfl qak rfl) (.tmp HF rfl) (.tmp HF rfl) (qoh (qpp hcs (by omega) hwb (by omega)) (by rw [hql]) rfl hc29 (Mem.drop1 (HM.picksT 4 [0] (by decide) (by decide) rfl)))
theorem qrj (W w : World) (lim : Int) (A : Option Addr) (c : Nat) (out : List Nat) (fs : List Fact) (HW : Mem W w (.row (.slice A out.length c) out.length (out.map B8) 5 1 :: fs)) (hc : out.length ≤ c) (hout : out.length ≤ 524288) (next : Int) (hnx : I64 next) :
    Calls Tryz.prog 28 #[.agg #[.int .i64 lim, .slice A out.length c], .int .i64 next] w (WrR1 W lim (zk out [endB next]).1 fs (zk out [endB next]).2) := by
 have hrA := HW.rd (i := 0) rfl
 refine qg (vs := [.agg #[vI lim, .slice A out.length c], vI next]) Tryz.func28 rfl rfl (by kernel_rfl) (σ0 := [(0, .agg #[vI lim, .slice A out.length c]), (1, vI next)]) rfl ?_
 intro a HF
 have HM := Mem.start w
 refine wp_seq (qa ?_)
 refine fo HF 0 rfl rfl ?_
 refine e_box HF HM (cs := #[vI lim, .slice A out.length c]) rfl rfl rfl rfl (by decide) ?_
 clear HF HM; intro a w2 g2 HF HM
 refine fo HF 1 rfl rfl ?_
 refine qt HF HM (cs := #[vI 0, .slice none 0 0]) rfl (by kernel_rfl) rfl (by decide) ?_
 clear HF HM; intro a w4 g4 HF HM
 refine fp HF 1 2 [(5, vI 0)] fun a HF => ?_
 refine qb rfl ?_
 replace HM : Mem W _ (.blk g4 #[vI 0, .slice none 0 0] 71 :: .blk g2 #[vI lim, .slice A out.length c] 71 :: .row (.slice A out.length c) out.length (out.map B8) 5 1 :: fs) := HW.join HM
 obtain ⟨o2, we, hww⟩ : ∃ o2 we, zk out [endB next] = (o2, we) := ⟨_, _, rfl⟩
 refine wp_seq (qa ?_)
 refine fy HF HM 0 rfl rfl rfl (v := .agg #[vI lim, .slice A out.length c]) (Yl.zc rfl rfl qak rfl (fun _ h => qf (h.blk (i := 1) rfl))) fun a HF => ?_
 refine fp HF 1 1 [(7, vI next)] fun a HF => ?_
 refine fy HF HM 2 rfl rfl rfl (v := .agg #[vB 2, vB 0, vI 0, vI next, .slice none 0 0]) (Yl.build (vs := [(0, vB 2), (3, vI next)]) rfl (by kernel_rfl) (by kernel_rfl)) fun a HF => ?_
 refine fo HF 3 rfl rfl ?_
 refine ze HF HM (vs := [(0, .agg #[vB 2, vB 0, vI 0, vI next, .slice none 0 0])]) (cs := #[vB 2, vB 0, vI 0, vI next, .slice none 0 0]) rfl qib (by decide) rfl (by kernel_rfl) rfl (by decide) ?_
 clear HF HM; intro a w9 g9 HF HM
 refine fo HF 4 rfl rfl ?_
 refine e_cl HF [.agg #[vI lim, .slice A out.length c], vS g9 1 1] rfl rfl (qgz W _ lim A c out _ (HM.picksT 4 [3, 0, 1, 2] (by decide) (by decide) rfl) hc hout _ 1 [⟨endB next, none, 0⟩] (HM.rdBlk (i := 0) (n := 1) (size := 5) rfl rfl) (by intro x hx; rw [List.mem_singleton] at hx; subst hx; exact Rd.nil) (by intro x hx; rw [List.mem_singleton] at hx; subst hx; exact qui hnx) (by intro x hx; rw [List.mem_singleton] at hx; subst hx; exact Nat.zero_le _) (by show 1 ≤ 1000000; decide) hww) ?_
 rintro _ w10 ⟨A10, c10, rfl, hc10, HM2⟩
 refine ⟨_, rfl, ?_⟩
 replace HM := HM2
 clear HF; intro a HF
 refine fp HF 2 5 [(12, vI we), (11, .agg #[vI lim, .slice A10 o2.length c10])] fun a HF => ?_
 refine fo HF 7 rfl rfl ?_
 refine e_sa HF HM 2 rfl rfl rfl rfl rfl qak rfl rfl (by simp [Value.oneCell']) ?_
 clear HM; intro w1_7 HM
 refine fp HF 1 8 [(5, vI we)] fun a HF => ?_
 refine qb rfl (wp_ret ?_)
 exact ret2 rfl HF (.cellS (i := 2) HF HM rfl rfl qak rfl) (.tmp HF rfl) (qk6 hww rfl hc10 (HM.picksT 4 [0] (by decide) (by decide) rfl))
theorem qro (A A2 : Option Addr) (c c2 : Nat) (q q2 : List Hb) (hqq : q.map Hb.b = q2.map Hb.b) (w : World) (hr : Rd w w.heap.size 5 A q.length (q.flatMap hbL)) (hr2 : Rd w w.heap.size 5 A2 q2.length (q2.flatMap hbL)) (hQ : HbRd w q) (hQ2 : HbRd w q2) (hev : ∀ h ∈ q, h.b.evs.length ≤ 1000000) (hn : q.length ≤ 1000000) :
    Calls Tryz.prog 27 #[.slice A q.length c, .slice A2 q2.length c2] w (Is w (.bool true)) := by
 have hlq : q.length = q2.length := by have h := congrArg List.length hqq; rwa [List.length_map, List.length_map] at h
 refine qg (vs := [.slice A q.length c, .slice A2 q2.length c2]) Tryz.func27 rfl rfl (by kernel_rfl) (σ0 := [(0, .slice A q.length c), (1, .slice A2 q2.length c2)]) rfl ?_
 intro a HF
 have HM := Mem.start w
 refine wp_seq (qa ?_)
 refine fp HF 1 0 [(4, .bool false)] fun a HF => ?_
 refine qb rfl (wp_seq (wp_seq (qa ?_)))
 refine fp HF 1 0 [(7, .slice A q.length c)] fun a HF => ?_
 refine fy HF HM 1 rfl rfl rfl (Yl.len rfl rfl (by kernel_rfl)) fun a HF => ?_
 refine fp HF 1 2 [(9, .slice A2 q2.length c2)] fun a HF => ?_
 refine fy HF HM 3 rfl rfl rfl (Yl.len rfl rfl (by kernel_rfl)) fun a HF => ?_
 refine fp HF 1 4 [(11, .bool ((q.length : Int) != (q2.length : Int)))] fun a HF => ?_
 replace HF := HF.sp 11 (.bool false) rfl (by rw [hlq]; simp)
 refine qb rfl (qd HF rfl (wp_skip (wp_seq (wp_seq (qa ?_)))))
 refine fp HF 1 0 [(12, .slice A q.length c)] fun a HF => ?_
 refine fy HF HM 1 rfl rfl rfl (Yl.len rfl rfl (by kernel_rfl)) fun a HF => ?_
 refine fp HF 1 2 [(14, vI 0)] fun a HF => ?_
 refine qb rfl (wp_block ?_)
 refine qs (fun mS aS wS => ∃ (k : Nat), (k ≤ q.length) ∧ mS = q.length - k ∧ Fr aS 28 [] [(14, vI k), (13, vI q.length), (12, .slice A q.length c), (11, .bool false), (4, .bool false), (0, .slice A q.length c), (1, .slice A2 q2.length c2)] ∧ Mem w wS []) (m := q.length - 0) ⟨0, Nat.zero_le _, rfl, HF.sub (by kernel_rfl), HM.picks [] (by decide) rfl⟩ ?_
 clear HF HM; rintro mS a w_ ⟨k, hk, rfl, HF, HM⟩
 refine wp_seq (qa ?_)
 refine fp HF 1 0 [(15, .bool (decide ((k : Int) < (q.length : Int))))] fun a HF => ?_
 refine qb rfl (wp_seq ?_)
 rcases HF.tf 15 rfl with ⟨hb15, HF⟩ | ⟨hb15, HF⟩
 ·
  have hd15 := of_decide_eq_true hb15
  have hk15 : k < q.length := by omega
  have hbe : (q.getD k Hb.zero).b = (q2.getD k Hb.zero).b := hb_eq hqq (by omega)
  refine qe HF rfl (wp_skip (wp_seq (wp_block (wp_seq (qa ?_)))))
  refine fp HF 1 0 [(16, vI k)] fun a HF => ?_
  obtain ⟨gA, oA, rfl, _⟩ := hr.qy (Nat.lt_of_le_of_lt (Nat.zero_le _) (show k < q.length from by omega)) (by decide)
  refine fy HF HM 1 rfl rfl rfl (v := vP gA (oA + k * 5)) (Yl.ix gA oA k 5 rfl rfl rfl) fun a HF => ?_
  refine fy HF HM 2 rfl rfl rfl (v := .agg ((q.getD k Hb.zero).b.cells (q.getD k Hb.zero).A (q.getD k Hb.zero).c)) (Yl.zc rfl rfl si_bk rfl (fun _ h => (h.old hr).zt qcb ((getD_at Hb.zero (k := k) (by first | omega | (simp; omega)))))) fun a HF => ?_
  refine fo HF 3 rfl rfl ?_
  refine qt HF HM (cs := #[vB 0, vB 0, vI 0, vI 0, .slice none 0 0]) rfl (by kernel_rfl) rfl (by decide) ?_
  clear HF HM; intro a w6 g6 HF HM
  refine fp HF 1 4 [(5, vI k)] fun a HF => ?_
  refine fo HF 5 rfl rfl ?_
  refine e_sa HF HM 0 rfl rfl rfl rfl rfl si_bk rfl rfl (qbk _ _ _) ?_
  clear HM; intro w5_5 HM
  refine qb rfl (wp_seq ?_)
  refine qag HM [.blk g6 ((q.getD k Hb.zero).b.cells (q.getD k Hb.zero).A (q.getD k Hb.zero).c) 27] [0] [] fun HM HS => ?_
  refine ap HF (fun _ => HS) [2, 3] #[false, false, true, true, false, false, false, false] [(22, vI k), (21, .slice A2 q2.length c2)] fun a HF => ?_
  refine ay HF HS 0 rfl rfl rfl (v := .agg ((q.getD k Hb.zero).b.cells (q.getD k Hb.zero).A (q.getD k Hb.zero).c)) (Yl.zc rfl rfl si_bk rfl (fun _ h => qf (h.blk (i := 0) rfl))) fun a HF => ?_
  obtain ⟨gA2, oA2, rfl, _⟩ := hr2.qy (Nat.lt_of_le_of_lt (Nat.zero_le _) (show k < q2.length from by omega)) (by decide)
  refine ay HF HS 4 rfl rfl rfl (v := vP gA2 (oA2 + k * 5)) (Yl.ix gA2 oA2 k 5 rfl rfl rfl) fun a HF => ?_
  refine ay HF HS 5 rfl rfl rfl (v := .agg ((q2.getD k Hb.zero).b.cells (q2.getD k Hb.zero).A (q2.getD k Hb.zero).c)) (Yl.zc rfl rfl qb8 rfl (fun _ h => (h.old hr2).zt qcb ((getD_at Hb.zero (k := k) (by first | omega | (simp; omega)))))) fun a HF => ?_
  refine qj [1] (by kernel_rfl) rfl ?_
  refine all_cons ?_ all_nil
  refine qo HF (i := 1) rfl rfl ?_
  refine e_cl HF [.agg ((q.getD k Hb.zero).b.cells (q.getD k Hb.zero).A (q.getD k Hb.zero).c)] rfl rfl (qg0 (q.getD k Hb.zero).b ((q.getD k Hb.zero).A) (q.getD k Hb.zero).c _ (HM.old (hQ.at hk15)) (hev _ (qal Hb.zero hk15))) ?_
  rintro _ w20 ⟨⟨A20, c20, rfl, ho, hc20⟩, hbw⟩
  refine ⟨_, rfl, ?_⟩
  replace HM := HM.callRow hbw ho
  clear HF; intro a HF
  refine keepS (HM.picks [1] (by decide) rfl) (fun HS => ?_)
  refine qj [6] (by kernel_rfl) rfl ?_
  refine all_cons ?_ all_nil
  refine qo HF (i := 6) rfl rfl ?_
  refine e_is HF HM [.agg ((q.getD k Hb.zero).b.cells A20 c20), .agg ((q2.getD k Hb.zero).b.cells (q2.getD k Hb.zero).A (q2.getD k Hb.zero).c)] (.bool (decide ((q.getD k Hb.zero).b = (q2.getD k Hb.zero).b))) rfl rfl (qrh (q.getD k Hb.zero).b (q2.getD k Hb.zero).b A20 ((q2.getD k Hb.zero).A) c20 (q2.getD k Hb.zero).c _ (HM.rd (i := 0) rfl) (HM.old (hQ2.at (by omega))) (hev _ (qal Hb.zero hk15))) fun w25 hbw HM a HF => ?_
  refine keepS (HM.picks [1] (by decide) rfl) (fun HS => ?_)
  refine zh HF (fun _ => HS) (i := 7) rfl rfl (d := 26) rfl (by decide) (by kernel_rfl) (fun _ _ _ h => h) (v := .bool (!(decide ((q.getD k Hb.zero).b = (q2.getD k Hb.zero).b)))) (fun _ => Yl.pure (by kernel_rfl)) fun a HF => ?_
  replace HF := HF.sp 26 (.bool false) rfl (by rw [decide_eq_true hbe]; rfl)
  refine qn (by kernel_rfl) ?_
  refine qd HF rfl (wp_skip (qa ?_))
  refine fp HF 1 0 [(27, vI (IntKind.i64.wrap ((k : Int) + 1)))] fun a HF => ?_
  replace HF := HF.sp 27 (vI (k + 1 : Nat)) rfl (qi (by omega) (by omega))
  refine fp HF 1 1 [(14, vI (k + 1 : Nat))] fun a HF => ?_
  refine qb rfl ?_
  exact ⟨_, (by omega), k + 1, by omega, rfl, HF.sub (by kernel_rfl), HM.picks [] (by decide) rfl⟩
 have hd15 := of_decide_eq_false hb15
 refine qd HF rfl (wp_exit (wp_seq (qa ?_)))
 refine fp HF 1 0 [(4, .bool true)] fun a HF => ?_
 refine qb rfl (wp_ret ?_)
 exact ret1 rfl HF (.tmp HF rfl) (⟨rfl, HM.below⟩)
theorem qnj {q : List Hb} {k : Nat} (h : k < q.length) : (q.take (k + 1)).map Hb.b = (q.take k).map Hb.b ++ [(q.getD k Hb.zero).b] := by rw [qdq Hb.zero h, List.map_append]; rfl
theorem qxw {q q2 : List Hb} {p : Bk → Prop} (hqq : q.map Hb.b = q2.map Hb.b) (h : ∀ x ∈ q, p x.b) : ∀ x ∈ q2, p x.b := fun x hx => by
 have h1 : x.b ∈ q.map Hb.b := by rw [hqq]; exact List.mem_map_of_mem hx
 obtain ⟨y, hy, e⟩ := List.mem_map.1 h1
 rw [← e]; exact h y hy
theorem qxx {α : Type} (d : α) {l : List α} {x : α} (h : x ∈ l) : ∃ i, i < l.length ∧ l.getD i d = x := by
 obtain ⟨i, hi, rfl⟩ := List.getElem_of_mem h
 exact ⟨i, hi, by rw [List.getD_eq_getElem?_getD, List.getElem?_eq_getElem hi]; rfl⟩
theorem qkb {p : Nat → Prop} {k : Nat} (h : ∀ i, i < k → p i) (hk : p k) : ∀ i, i < k + 1 → p i := fun i hi => by
 rcases Nat.lt_or_ge i k with h1 | h1
 ·exact h i h1
 ·obtain rfl : i = k := by omega
  exact hk
theorem AcIn.old {W w : World} {fs : List Fact} {x : Acx} (h : AcIn W x) (HM : Mem W w fs) : AcIn w x := ⟨h.cpu, h.ok, h.opn, h.next, h.hc, h.hm, HM.old h.rd⟩
theorem si_ac : SI Tryz.prog 30 5 := ⟨by kernel_rfl, by kernel_rfl⟩
theorem qw7 (lim : Int) (hl : I64 lim) (h : lim < 1 ∨ 4096 < lim) (w : World) : Calls Tryz.prog 16 #[.int .i64 lim] w (Is w (.tuple #[.pointer none, .int .i64 2])) :=
 (qnf lim hl w).mono fun r w' h1 => by
  rcases h1 with ⟨_, h2⟩ | ⟨h2, _⟩
  ·exact h2
  ·omega
theorem qu7 (W w : World) (lim : Int) (A : Option Addr) (c : Nat) (out : List Nat) (fs : List Fact) (HW : Mem W w (.row (.slice A out.length c) out.length (out.map B8) 5 1 :: fs)) (hc : out.length ≤ c) (hout : out.length ≤ 524288) (next : Int) (hnx : I64 next) {o2 : List Nat} {we : Nat} (h : zk out [endB next] = (o2, we)) :
  Calls Tryz.prog 28 #[.agg #[.int .i64 lim, .slice A out.length c], .int .i64 next] w (WrR1 W lim o2 fs we) := by
 have h1 := qrj W w lim A c out fs HW hc hout next hnx
 rw [h] at h1
 exact h1
theorem qu8 (W w : World) (lim : Int) (A : Option Addr) (c : Nat) (out : List Nat) (fs : List Fact) (HW : Mem W w (.row (.slice A out.length c) out.length (out.map B8) 5 1 :: fs)) (hc : out.length ≤ c) (hout : out.length ≤ 524288) (hlm : I64 lim) (cpu : Nat) (hcpu : cpu < 256) (A2 : Option Addr) (c2 : Nat) (l : List It) (opn : Int) (hok : ∀ x ∈ l, x.Ok) (ho : I64 opn) (hr : Rd w w.heap.size 12 A2 l.length (l.flatMap itL)) (hc2 : l.length ≤ c2) (hn : l.length ≤ 999999) {o2 : List Nat} {k we : Nat} (h : putW out lim cpu l opn = (o2, k, we)) :
  Calls Tryz.prog 30 #[.agg #[.int .i64 lim, .slice A out.length c], .int .u8 (cpu : Int), .slice A2 l.length c2, .int .i64 opn] w (WrR2 W lim o2 fs k we) := by
 have h1 := qri W w lim A c out fs HW hc hout hlm cpu hcpu A2 c2 l opn hok ho hr hc2 hn
 rw [h] at h1
 exact h1
theorem qnk (A : Option Addr) (c : Nat) (q : List Hb) (B : Nat) (w : World) (hL : LaidX B w) (hB : B ≤ w.heap.size) (hr : Rd w w.heap.size 5 A q.length (q.flatMap hbL)) (hQ : HbRd w q) (hok : ∀ h ∈ q, h.b.Ok) (hev : ∀ h ∈ q, h.b.evs.length ≤ 1000000) (hn : q.length ≤ 1000000) :
    Calls Tryz.prog 7 #[.slice A q.length c] w (Is w (.bool true)) := by
 refine qg (vs := [.slice A q.length c]) Tryz.func7 rfl rfl (by kernel_rfl) (σ0 := [(0, .slice A q.length c)]) rfl ?_
 intro a HF
 have HM := Mem.start w
 refine wp_seq (qa ?_)
 refine fp HF 1 0 [(2, .bool false)] fun a HF => ?_
 refine qb rfl (wp_seq (qa ?_))
 refine fp HF 1 0 [(3, .slice none 0 0)] fun a HF => ?_
 refine qb rfl ?_
 replace HM := HM.nil 48 5
 replace HM : Mem w _ (.row (.slice none 0 0) 0 [] 48 5 :: (hbF 112 [] ++ ([]))) := HM
 refine wp_seq (wp_seq (qa ?_))
 refine fp HF 1 0 [(10, .slice A q.length c)] fun a HF => ?_
 refine fy HF HM 1 rfl rfl rfl (Yl.len rfl rfl (by kernel_rfl)) fun a HF => ?_
 refine fp HF 1 2 [(12, vI 0)] fun a HF => ?_
 refine qb rfl (wp_block ?_)
 refine qs (fun mS aS wS => ∃ (k : Nat) (q2 : List Hb) (Ao : Option Addr) (co : Nat), (k ≤ q.length) ∧ (q2.map Hb.b = (q.take k).map Hb.b) ∧ (q2.length = k) ∧ (q2.length ≤ co) ∧ mS = q.length - k ∧ Fr aS 47 [] [(12, vI k), (11, vI q.length), (10, .slice A q.length c), (3, .slice Ao q2.length co), (2, .bool false), (0, .slice A q.length c)] ∧ Mem w wS (.row (.slice Ao q2.length co) q2.length (q2.flatMap hbL) 48 5 :: (hbF 112 q2 ++ ([])))) (m := q.length - 0) ⟨0, [], none, 0, Nat.zero_le _, rfl, rfl, Nat.le_refl _, rfl, HF.sub (by kernel_rfl), HM.picksT 1 [0] (by decide) (by decide) rfl⟩ ?_
 clear HF HM; rintro mS a w_ ⟨k, q2, Ao, co, hk, hq2, hl2, hco, rfl, HF, HM⟩
 refine wp_seq (qa ?_)
 refine fp HF 1 0 [(13, .bool (decide ((k : Int) < (q.length : Int))))] fun a HF => ?_
 refine qb rfl (wp_seq ?_)
 rcases HF.tf 13 rfl with ⟨hb13, HF⟩ | ⟨hb13, HF⟩
 ·
  have hd13 := of_decide_eq_true hb13
  have hk13 : k < q.length := by omega
  have hts := qnj hk13
  refine qe HF rfl (wp_skip (wp_seq (wp_block (wp_seq (qa ?_)))))
  obtain ⟨gA, oA, rfl, _⟩ := hr.qy (Nat.lt_of_le_of_lt (Nat.zero_le _) (show k < q.length from by omega)) (by decide)
  refine fy HF HM 0 rfl rfl rfl (v := vP gA (oA + k * 5)) (Yl.ix gA oA k 5 rfl rfl rfl) fun a HF => ?_
  refine fy HF HM 1 rfl rfl rfl (v := .agg ((q.getD k Hb.zero).b.cells (q.getD k Hb.zero).A (q.getD k Hb.zero).c)) (Yl.zc rfl rfl si_bk rfl (fun _ h => (h.old hr).zt qcb ((getD_at Hb.zero (k := k) (by first | omega | (simp; omega)))))) fun a HF => ?_
  refine fo HF 2 rfl rfl ?_
  refine qt HF HM (cs := #[vB 0, vB 0, vI 0, vI 0, .slice none 0 0]) rfl (by kernel_rfl) rfl (by decide) ?_
  clear HF HM; intro a w5 g5 HF HM
  refine fo HF 3 rfl rfl ?_
  refine e_sa HF HM 0 rfl rfl rfl rfl rfl si_bk rfl rfl (qbk _ _ _) ?_
  clear HM; intro w4_3 HM
  refine qb rfl (qa ?_)
  refine fp HF 1 0 [(16, .slice Ao q2.length co)] fun a HF => ?_
  refine fy HF HM 1 rfl rfl rfl (v := .agg ((q.getD k Hb.zero).b.cells (q.getD k Hb.zero).A (q.getD k Hb.zero).c)) (Yl.zc rfl rfl si_bk rfl (fun _ h => qf (h.blk (i := 0) rfl))) fun a HF => ?_
  refine fo HF 2 rfl rfl ?_
  refine e_cl HF [.agg ((q.getD k Hb.zero).b.cells (q.getD k Hb.zero).A (q.getD k Hb.zero).c)] rfl rfl (qg0 (q.getD k Hb.zero).b ((q.getD k Hb.zero).A) (q.getD k Hb.zero).c _ (HM.old (hQ.at hk13)) (hev _ (qal Hb.zero hk13))) ?_
  rintro _ w18 ⟨⟨A18, c18, rfl, ho, hc18⟩, hbw⟩
  refine ⟨_, rfl, ?_⟩
  replace HM := HM.callRow hbw ho
  clear HF; intro a HF
  refine fo HF 3 rfl rfl ?_
  refine ze HF HM (vs := [(0, .agg ((q.getD k Hb.zero).b.cells A18 c18))]) (cs := ((q.getD k Hb.zero).b.cells A18 c18)) rfl qib (by decide) rfl (by kernel_rfl) rfl (by decide) ?_
  clear HF HM; intro a w19 g19 HF HM
  refine fo HF 4 rfl rfl ?_
  refine qu HF HM (i := 3) rfl qib rfl rfl rfl (news := (hbL (⟨(q.getD k Hb.zero).b, A18, c18⟩ : Hb))) (HM.rdBlk (i := 0) (n := 1) (size := 5) rfl rfl) (qbk _ _ _) (by omega) (by omega) rfl (by decide) ?_
  clear HF HM; intro a w20 A20 c20 HF HM hc20
  refine fp HF 1 5 [(3, .slice A20 (q2.length + 1) c20)] fun a HF => ?_
  refine qb rfl ?_
  have hnA20 : q2.length + 1 = (q2 ++ [(⟨(q.getD k Hb.zero).b, A18, c18⟩ : Hb)]).length := by rw [List.length_append]; rfl
  replace HM := HM.reRow (i := 3) (ys := (q2 ++ [(⟨(q.getD k Hb.zero).b, A18, c18⟩ : Hb)]).flatMap hbL) rfl hnA20 (by rw [List.flatMap_append, List.flatMap_cons, List.flatMap_nil, List.append_nil])
  rw [hnA20] at hc20
  replace HF := HF.as (t := 3) (u := .slice A20 ((q2 ++ [(⟨(q.getD k Hb.zero).b, A18, c18⟩ : Hb)]).length) c20) rfl (by rw [hnA20])
  replace HF := HF.as (t := 20) (u := .slice A20 ((q2 ++ [(⟨(q.getD k Hb.zero).b, A18, c18⟩ : Hb)]).length) c20) rfl (by rw [hnA20])
  replace HM := Mem.toHb (a := [.blk g19 ((q.getD k Hb.zero).b.cells A18 c18) 48, .blk g5 ((q.getD k Hb.zero).b.cells (q.getD k Hb.zero).A (q.getD k Hb.zero).c) 27, .row (.slice A20 ((q2 ++ [(⟨(q.getD k Hb.zero).b, A18, c18⟩ : Hb)]).length) c20) ((q2 ++ [(⟨(q.getD k Hb.zero).b, A18, c18⟩ : Hb)]).length) ((q2 ++ [(⟨(q.getD k Hb.zero).b, A18, c18⟩ : Hb)]).flatMap hbL) 48 5]) (q := q2) (b := []) (HM.picksT (fs' := (.row (.slice A18 ((q.getD k Hb.zero).b.evs.length) c18) ((q.getD k Hb.zero).b.evs.length) ((q.getD k Hb.zero).b.evs.flatMap evL) 112 11 :: .blk g19 ((q.getD k Hb.zero).b.cells A18 c18) 48 :: .blk g5 ((q.getD k Hb.zero).b.cells (q.getD k Hb.zero).A (q.getD k Hb.zero).c) 27 :: .row (.slice A20 ((q2 ++ [(⟨(q.getD k Hb.zero).b, A18, c18⟩ : Hb)]).length) c20) ((q2 ++ [(⟨(q.getD k Hb.zero).b, A18, c18⟩ : Hb)]).length) ((q2 ++ [(⟨(q.getD k Hb.zero).b, A18, c18⟩ : Hb)]).flatMap hbL) 48 5 :: (hbF 112 q2 ++ ([])))) 4 [1, 0, 2, 3] (by decide) (by decide) rfl)
  replace HM : Mem w _ (.blk g19 ((q.getD k Hb.zero).b.cells A18 c18) 48 :: .blk g5 ((q.getD k Hb.zero).b.cells (q.getD k Hb.zero).A (q.getD k Hb.zero).c) 27 :: .row (.slice A20 ((q2 ++ [(⟨(q.getD k Hb.zero).b, A18, c18⟩ : Hb)]).length) c20) ((q2 ++ [(⟨(q.getD k Hb.zero).b, A18, c18⟩ : Hb)]).length) ((q2 ++ [(⟨(q.getD k Hb.zero).b, A18, c18⟩ : Hb)]).flatMap hbL) 48 5 :: (hbF 112 (q2 ++ [(⟨(q.getD k Hb.zero).b, A18, c18⟩ : Hb)]) ++ ([]))) := HM
  refine qa ?_
  refine fp HF 1 0 [(21, vI (IntKind.i64.wrap ((k : Int) + 1)))] fun a HF => ?_
  replace HF := HF.sp 21 (vI (k + 1 : Nat)) rfl (qi (by omega) (by omega))
  refine fp HF 1 1 [(12, vI (k + 1 : Nat))] fun a HF => ?_
  refine qb rfl ?_
  exact ⟨_, (by omega), k + 1, (q2 ++ [(⟨(q.getD k Hb.zero).b, A18, c18⟩ : Hb)]), A20, c20, by omega, by rw [hts, List.map_append, hq2]; rfl, by rw [List.length_append, hl2]; rfl, hc20, rfl, HF.sub (by kernel_rfl), HM.picksT 3 [2] (by decide) (by decide) rfl⟩
 have hd13 := of_decide_eq_false hb13
 have hqq : q.map Hb.b = q2.map Hb.b := by rw [hq2, List.take_of_length_le (by omega)]
 have hok2 : ∀ h ∈ q2, h.b.Ok := qxw (p := fun b => b.Ok) hqq hok
 have hev2 : ∀ h ∈ q2, h.b.evs.length ≤ 1000000 := qxw (p := fun b => b.evs.length ≤ 1000000) hqq hev
 obtain ⟨R, er, hws⟩ : ∃ R er, zy (q.map Hb.b) = (R, er) := ⟨_, _, rfl⟩
 have hws2 : zy (q2.map Hb.b) = (R, er) := by rw [← hqq]; exact hws
 have hql : q.length = q2.length := by have h := congrArg List.length hqq; rwa [List.length_map, List.length_map] at h
 refine qd HF rfl (wp_exit (wp_seq (qa ?_)))
 refine fp HF 1 0 [(23, .slice A q.length c)] fun a HF => ?_
 refine fo HF 1 rfl rfl ?_
 refine e_cl HF [.slice A q.length c] rfl rfl (qka A c q B _ (hL.mem HM hB) (HM.le hB) (HM.old hr) (hQ.old HM) hok hev hn hws) ?_
 rintro _ w24 ⟨⟨A24, c24, rfl, ho, hc24⟩, hbw⟩
 refine ⟨_, rfl, ?_⟩
 replace HM := HM.callRow hbw ho
 clear HF; intro a HF
 refine fp HF 5 2 [(7, vI er), (6, .slice A24 R.length c24)] fun a HF => ?_
 refine qb rfl (wp_seq (qa ?_))
 refine fp HF 1 0 [(28, .slice Ao q2.length co)] fun a HF => ?_
 refine fo HF 1 rfl rfl ?_
 refine e_cl HF [.slice Ao q2.length co] rfl rfl (qio Ao co q2 _ (HM.rd (i := 1) rfl) (Mem.qw8 (a := [.row (.slice A24 R.length c24) R.length (R.map B8) 5 1, .row (.slice Ao q2.length co) q2.length (q2.flatMap hbL) 48 5]) HM) hok2 hev2 (by omega) hws2) ?_
 rintro _ w29 ⟨⟨A29, c29, rfl, ho, hc29⟩, hbw⟩
 refine ⟨_, rfl, ?_⟩
 replace HM := HM.callRow hbw ho
 clear HF; intro a HF
 refine fp HF 5 2 [(9, vI er), (8, .slice A29 R.length c29)] fun a HF => ?_
 refine qb rfl (wp_seq (qa ?_))
 refine fp HF 3 0 [(34, .bool ((er : Int) == (er : Int)))] fun a HF => ?_
 replace HF := HF.sp 34 (.bool true) rfl (by simp)
 refine fp HF 2 3 [(36, .slice A24 R.length c24), (35, .bool true)] fun a HF => ?_
 refine fy HF HM 5 rfl rfl rfl (v := .string (bstr R)) (Yl.str rfl rfl (fun _ h => h.rd (i := 1) rfl)) fun a HF => ?_
 refine fp HF 1 6 [(38, .slice A29 R.length c29)] fun a HF => ?_
 refine fy HF HM 7 rfl rfl rfl (v := .string (bstr R)) (Yl.str rfl rfl (fun _ h => h.rd (i := 0) rfl)) fun a HF => ?_
 refine fp HF 1 8 [(40, .bool (((bstr R)).toList == ((bstr R)).toList))] fun a HF => ?_
 replace HF := HF.sp 40 (.bool true) rfl (by simp)
 refine fp HF 4 9 [(44, .slice Ao q2.length co), (43, .slice A q.length c), (42, .bool true)] fun a HF => ?_
 refine fo HF 13 rfl rfl ?_
 refine e_is HF HM [.slice A q.length c, .slice Ao q2.length co] (.bool true) rfl rfl (qro A Ao c co q q2 hqq _ (HM.old hr) (HM.rd (i := 2) rfl) (hQ.old HM) (Mem.qw8 (a := [.row (.slice A29 R.length c29) R.length (R.map B8) 5 1, .row (.slice A24 R.length c24) R.length (R.map B8) 5 1, .row (.slice Ao q2.length co) q2.length (q2.flatMap hbL) 48 5]) HM) hev hn) fun w45 hbw HM a HF => ?_
 refine fp HF 2 14 [(2, .bool true)] fun a HF => ?_
 refine qb rfl (wp_ret ?_)
 exact ret1 rfl HF (.tmp HF rfl) (⟨rfl, HM.below⟩)
theorem qou (lim : Int) (hlm : I64 lim) (hbad : lim < 1 ∨ 4096 < lim) (A : Option Addr) (c : Nat) (acts : List Acx) (w : World) :
    Calls Tryz.prog 8 #[.int .i64 lim, .slice A acts.length c] w (Is w (.bool true)) := by
 refine qg (vs := [vI lim, .slice A acts.length c]) Tryz.func8 rfl rfl (by kernel_rfl) (σ0 := [(0, vI lim), (1, .slice A acts.length c)]) rfl ?_
 intro a HF
 have HM := Mem.start w
 refine wp_seq (qa ?_)
 refine fp HF 1 0 [(4, .bool false)] fun a HF => ?_
 refine qb rfl (wp_seq (qa ?_))
 refine fp HF 1 0 [(19, vI lim)] fun a HF => ?_
 refine fo HF 1 rfl rfl ?_
 refine e_is HF HM [vI lim] (.tuple #[.pointer none, vI 2]) rfl rfl (qw7 lim hlm hbad _) fun w20 hbw HM a HF => ?_
 refine fp HF 5 2 [(6, vI 2), (5, .pointer none)] fun a HF => ?_
 refine qb rfl (wp_seq (wp_seq (qa ?_)))
 refine fp HF 3 0 [(25, .bool (decide ((lim : Int) < (1 : Int))))] fun a HF => ?_
 rcases HF.tf 25 rfl with ⟨hb25, HF⟩ | ⟨hb25, HF⟩
 ·
  have hd25 := of_decide_eq_true hb25
  refine fp HF 3 3 [(28, .bool true)] fun a HF => ?_
  refine qb rfl (qe HF rfl (wp_seq (qa ?_)))
  refine fp HF 4 0 [(32, .pointer none), (31, .bool true)] fun a HF => ?_
  refine fy HF HM 4 rfl rfl rfl (v := .bool true) (Yl.qit rfl rfl rfl) fun a HF => ?_
  refine fp HF 2 5 [(4, .bool true)] fun a HF => ?_
  refine qb rfl (wp_ret ?_)
  exact ret1 rfl HF (.tmp HF rfl) (⟨rfl, HM.below⟩)
 have hd25 := of_decide_eq_false hb25
 refine fp HF 3 3 [(28, .bool (decide ((lim : Int) > (4096 : Int))))] fun a HF => ?_
 refine qb rfl ?_
 rcases HF.tf 28 rfl with ⟨hb28, HF⟩ | ⟨hb28, HF⟩
 ·
  have hd28 := of_decide_eq_true hb28
  refine qe HF rfl (wp_seq (qa ?_))
  refine fp HF 4 0 [(32, .pointer none), (31, .bool true)] fun a HF => ?_
  refine fy HF HM 4 rfl rfl rfl (v := .bool true) (Yl.qit rfl rfl rfl) fun a HF => ?_
  refine fp HF 2 5 [(4, .bool true)] fun a HF => ?_
  refine qb rfl (wp_ret ?_)
  exact ret1 rfl HF (.tmp HF rfl) (⟨rfl, HM.below⟩)
 have hd28 := of_decide_eq_false hb28
 exfalso; omega
theorem qov (lim : Int) (hlm : I64 lim) (hlim : 1 ≤ lim ∧ lim ≤ 4096) (A : Option Addr) (c : Nat) (acts : List Acx) (B : Nat) (w : World) (hL : LaidX B w) (hB : B ≤ w.heap.size) (hr : Rd w w.heap.size 5 A acts.length (acts.flatMap acL)) (hin : ∀ x ∈ acts, AcIn w x) (h60 : ∀ x ∈ acts, x.l.length ≤ 60) (hn : acts.length ≤ 1000000) :
    Calls Tryz.prog 8 #[.int .i64 lim, .slice A acts.length c] w (Is w (.bool true)) := by
 refine qg (vs := [vI lim, .slice A acts.length c]) Tryz.func8 rfl rfl (by kernel_rfl) (σ0 := [(0, vI lim), (1, .slice A acts.length c)]) rfl ?_
 intro a HF
 have HM := Mem.start w
 refine wp_seq (qa ?_)
 refine fp HF 1 0 [(4, .bool false)] fun a HF => ?_
 refine qb rfl (wp_seq (qa ?_))
 refine fp HF 1 0 [(19, vI lim)] fun a HF => ?_
 refine fo HF 1 rfl rfl ?_
 refine e_cl HF [vI lim] rfl rfl (qqa lim _ hlim) ?_
 rintro _ w20 ⟨gw20, rfl, hm⟩
 refine ⟨_, rfl, ?_⟩
 replace HM := (HM.join hm).nil 5 1
 clear HF; intro a HF
 refine fp HF 5 2 [(6, vI 0), (5, vP gw20 0)] fun a HF => ?_
 refine qb rfl (wp_seq (wp_seq (qa ?_)))
 refine fp HF 3 0 [(25, .bool (decide ((lim : Int) < (1 : Int))))] fun a HF => ?_
 rcases HF.tf 25 rfl with ⟨hb25, HF⟩ | ⟨hb25, HF⟩
 ·
  have hd25 := of_decide_eq_true hb25
  exfalso; omega
 have hd25 := of_decide_eq_false hb25
 refine fp HF 3 3 [(28, .bool (decide ((lim : Int) > (4096 : Int))))] fun a HF => ?_
 refine qb rfl ?_
 rcases HF.tf 28 rfl with ⟨hb28, HF⟩ | ⟨hb28, HF⟩
 ·
  have hd28 := of_decide_eq_true hb28
  exfalso; omega
 have hd28 := of_decide_eq_false hb28
 refine qd HF rfl (wp_skip (wp_seq (wp_seq (qa ?_))))
 refine fp HF 4 0 [(38, vP gw20 0), (37, .bool false)] fun a HF => ?_
 refine fy HF HM 4 rfl rfl rfl (v := .bool false) (Yl.qit rfl rfl rfl) fun a HF => ?_
 refine fp HF 1 5 [(40, .bool false)] fun a HF => ?_
 refine qb rfl (qd HF rfl (wp_skip (wp_seq (qa ?_))))
 refine fp HF 1 0 [(41, vI lim)] fun a HF => ?_
 refine fy HF HM 1 rfl rfl rfl (v := .agg #[vI lim, .slice none 0 0]) (Yl.build (vs := [(0, vI lim)]) rfl (by kernel_rfl) (by kernel_rfl)) fun a HF => ?_
 refine fo HF 2 rfl rfl ?_
 refine qt HF HM (cs := #[vI 0, .slice none 0 0]) rfl (by kernel_rfl) rfl (by decide) ?_
 clear HF HM; intro a w7 g7 HF HM
 refine fo HF 3 rfl rfl ?_
 refine e_sa HF HM 0 rfl rfl rfl rfl rfl qak rfl rfl (by simp [Value.oneCell']) ?_
 clear HM; intro w6_3 HM
 refine qb rfl ?_
 replace HM := HM.nil 5 1
 refine wp_seq (wp_seq (qa ?_))
 refine fp HF 1 0 [(43, .slice A acts.length c)] fun a HF => ?_
 refine fy HF HM 1 rfl rfl rfl (Yl.len rfl rfl (by kernel_rfl)) fun a HF => ?_
 refine fp HF 1 2 [(45, vI 0)] fun a HF => ?_
 refine qb rfl (wp_block ?_)
 refine qs (fun mS aS wS => ∃ (j : Nat) (out : List Nat) (Ao : Option Addr) (co : Nat) (Ap : Option Addr) (cp : Nat), (j ≤ acts.length) ∧ (out.length ≤ 524288) ∧ (out.length ≤ co) ∧ (out.length ≤ cp) ∧ mS = acts.length - j ∧ Fr aS 123 [] [(45, vI j), (44, vI acts.length), (43, .slice A acts.length c), (7, vP g7 0), (5, vP gw20 0), (4, .bool false), (0, vI lim)] ∧ Mem w wS [.row (.slice Ap out.length cp) out.length (out.map B8) 5 1, .blk g7 #[vI lim, .slice Ap out.length cp] 71, .row (.slice Ao out.length co) out.length (out.map B8) 5 1, .blk gw20 #[vI lim, .slice Ao out.length co] 93]) (m := acts.length - 0) ⟨0, [], none, 0, none, 0, Nat.zero_le _, by decide, Nat.le_refl _, Nat.le_refl _, rfl, HF.sub (by kernel_rfl), HM.picks [0, 1, 2, 3] (by decide) rfl⟩ ?_
 clear HF HM; rintro mS a w_ ⟨j, out, Ao, co, Ap, cp, hj, hout, hco, hcp, rfl, HF, HM⟩
 refine wp_seq (qa ?_)
 refine fp HF 1 0 [(46, .bool (decide ((j : Int) < (acts.length : Int))))] fun a HF => ?_
 refine qb rfl (wp_seq ?_)
 rcases HF.tf 46 rfl with ⟨hb46, HF⟩ | ⟨hb46, HF⟩
 ·
  have hd46 := of_decide_eq_true hb46
  have hj46 : j < acts.length := by omega
  obtain ⟨x, hx⟩ : ∃ z, acts.getD j Acx.zero = z := ⟨_, rfl⟩
  have hxi : AcIn w x := by rw [← hx]; exact hin _ (qal Acx.zero hj46)
  have hx60 : x.l.length ≤ 60 := by rw [← hx]; exact h60 _ (qal Acx.zero hj46)
  refine qe HF rfl (wp_skip (wp_seq (wp_block (wp_seq (qa ?_)))))
  obtain ⟨gA, oA, rfl, _⟩ := hr.qy (Nat.lt_of_le_of_lt (Nat.zero_le _) (show j < acts.length from by omega)) (by decide)
  refine fy HF HM 0 rfl rfl rfl (v := vP gA (oA + j * 5)) (Yl.ix gA oA j 5 rfl rfl rfl) fun a HF => ?_
  refine fy HF HM 1 rfl rfl rfl (v := .agg ((acts.getD j Acx.zero).cells)) (Yl.zc rfl rfl si_ac rfl (fun _ h => (h.old hr).zt qog ((getD_at Acx.zero hj46)))) fun a HF => ?_
  replace HF := HF.sp 48 (.agg x.cells) rfl (by rw [hx])
  refine fo HF 2 rfl rfl ?_
  refine qt HF HM (cs := #[.bool false, vB 0, .slice none 0 0, vI 0, vI 0]) rfl (by kernel_rfl) rfl (by decide) ?_
  clear HF HM; intro a w9 g9 HF HM
  refine fo HF 3 rfl rfl ?_
  refine e_sa HF HM 0 rfl rfl rfl rfl rfl si_ac rfl rfl (qxp x) ?_
  clear HM; intro w9_3 HM
  refine qb rfl ?_
  refine qax (fun aS wS => ∃ (o2 : List Nat) (Aw : Option Addr) (cw : Nat) (Ax : Option Addr) (cx : Nat), Fr aS 123 [] [(45, vI j), (44, vI acts.length), (43, .slice (some ⟨gA, oA, none⟩) acts.length c), (7, vP g7 0), (5, vP gw20 0), (4, .bool false), (0, vI lim)] ∧ Mem w wS [.row (.slice Ax o2.length cx) o2.length (o2.map B8) 5 1, .blk g7 #[vI lim, .slice Ax o2.length cx] 71, .row (.slice Aw o2.length cw) o2.length (o2.map B8) 5 1, .blk gw20 #[vI lim, .slice Aw o2.length cw] 93] ∧ (o2.length ≤ 524288) ∧ (o2.length ≤ cw) ∧ (o2.length ≤ cx)) ?_ ?_
  ·
   refine wp_seq (qa ?_)
   refine fp HF 1 0 [(49, vP g9 0)] fun a HF => ?_
   refine fy HF HM 1 rfl rfl rfl (v := .bool x.fin) (Yl.qh rfl rfl (by kernel_rfl) (fun _ h => h.cell (i := 0) rfl (rfl))) fun a HF => ?_
   refine qb rfl ?_
   rcases HF.tf 50 rfl with ⟨hb50, HF⟩ | ⟨hb50, HF⟩
   ·
    obtain ⟨o2, we, hww⟩ : ∃ o2 we, zk out [endB x.next] = (o2, we) := ⟨_, _, rfl⟩
    have ho2 : o2.length ≤ 524288 := by have h := qjw (bs := [endB x.next]) hout; rw [hww] at h; exact h
    refine qe HF rfl (wp_seq (qa ?_))
    refine fp HF 2 0 [(52, vP g9 4), (51, vP gw20 0)] fun a HF => ?_
    refine fy HF HM 2 rfl rfl rfl (v := vI x.next) (Yl.qh rfl rfl (by kernel_rfl) (fun _ h => h.cell (i := 0) rfl (rfl))) fun a HF => ?_
    refine fo HF 3 rfl rfl ?_
    refine e_cl HF [vP gw20 0, vI x.next] rfl rfl (qlb (o2 := o2) (we := we) _ _ gw20 lim Ao co out _ (HM.picks [4, 3, 0, 1, 2] (by decide) rfl) (by first | exact Nat.le_refl _ | omega | exact Nat.zero_le _) hout (by omega) x.next hxi.next B (hL.mem HM hB) hB hww) ?_
    rintro _ w54 ⟨rfl, A54, c54, hc54, HM2⟩
    refine ⟨_, rfl, ?_⟩
    replace HM := HM2
    clear HF; intro a HF
    refine fp HF 1 4 [(10, vI we)] fun a HF => ?_
    refine qb rfl (wp_seq (qa ?_))
    refine fp HF 1 0 [(11, vI 0)] fun a HF => ?_
    refine qb rfl (wp_seq (qa ?_))
    refine fy HF HM 0 rfl rfl rfl (v := .agg #[vI lim, .slice Ap out.length cp]) (Yl.zc rfl rfl qak rfl (fun _ h => qf (h.blk (i := 4) rfl))) fun a HF => ?_
    refine fp HF 1 1 [(57, vP g9 4)] fun a HF => ?_
    refine fy HF HM 2 rfl rfl rfl (v := vI x.next) (Yl.qh rfl rfl (by kernel_rfl) (fun _ h => h.cell (i := 2) rfl (rfl))) fun a HF => ?_
    refine fo HF 3 rfl rfl ?_
    refine e_cl HF [.agg #[vI lim, .slice Ap out.length cp], vI x.next] rfl rfl (qu7 w _ lim Ap cp out _ (HM.picks [3, 0, 1, 2, 4] (by decide) rfl) hcp hout x.next hxi.next hww) ?_
    rintro _ w59 ⟨A59, c59, rfl, hc59, HM2⟩
    refine ⟨_, rfl, ?_⟩
    replace HM := HM2
    clear HF; intro a HF
    refine fp HF 3 4 [(61, vI we), (60, .agg #[vI lim, .slice A59 o2.length c59])] fun a HF => ?_
    refine fo HF 7 rfl rfl ?_
    refine e_sa HF HM 4 rfl rfl rfl rfl rfl qak rfl rfl (by simp [Value.oneCell']) ?_
    clear HM; intro w13_7 HM
    refine fp HF 1 8 [(11, vI we)] fun a HF => ?_
    refine qb rfl (wp_seq (qa ?_))
    refine fp HF 3 0 [(64, .bool ((we : Int) != (we : Int)))] fun a HF => ?_
    replace HF := HF.sp 64 (.bool false) rfl (by simp)
    refine qb rfl (qd HF rfl (wp_skip ?_))
    exact ⟨o2, A54, c54, A59, c59, HF.sub (by kernel_rfl), HM.picks [0, 4, 2, 1] (by decide) rfl, ho2, hc54, hc59⟩
   obtain ⟨o2, k, we, hpw⟩ : ∃ o2 k we, putW out lim x.cpu x.l x.opn = (o2, k, we) := ⟨_, _, _, rfl⟩
   have ho2 : o2.length ≤ 524288 := by have h := qwy (lim := lim) (cpu := x.cpu) (l := x.l) (opn := x.opn) hout; rw [hpw] at h; exact h
   refine qd HF rfl (wp_seq (qa ?_))
   refine fp HF 2 0 [(67, vP g9 1), (66, vP gw20 0)] fun a HF => ?_
   refine fy HF HM 2 rfl rfl rfl (v := vB x.cpu) (Yl.qh rfl rfl (by kernel_rfl) (fun _ h => h.cell (i := 0) rfl (rfl))) fun a HF => ?_
   refine fp HF 1 3 [(69, vP g9 2)] fun a HF => ?_
   refine fy HF HM 4 rfl rfl rfl (v := .slice x.A x.l.length x.c) (Yl.qh rfl rfl (by kernel_rfl) (fun _ h => h.cell (i := 0) rfl (rfl))) fun a HF => ?_
   refine fp HF 1 5 [(71, vP g9 3)] fun a HF => ?_
   refine fy HF HM 6 rfl rfl rfl (v := vI x.opn) (Yl.qh rfl rfl (by kernel_rfl) (fun _ h => h.cell (i := 0) rfl (rfl))) fun a HF => ?_
   refine fo HF 7 rfl rfl ?_
   refine e_cl HF [vP gw20 0, vB x.cpu, .slice x.A x.l.length x.c, vI x.opn] rfl rfl (qw6 (o2 := o2) (k := k) (we := we) _ _ gw20 lim Ao co out _ (HM.picks [4, 3, 0, 1, 2] (by decide) rfl) (by first | exact Nat.le_refl _ | omega | exact Nat.zero_le _) hout (by omega) hlm x.cpu hxi.cpu x.A x.c x.l x.opn hxi.ok hxi.opn B (hL.mem HM hB) hB (HM.old hxi.rd) hxi.hc (by omega) hpw) ?_
   rintro _ w73 ⟨rfl, A73, c73, hc73, HM2⟩
   refine ⟨_, rfl, ?_⟩
   replace HM := HM2
   clear HF; intro a HF
   refine fp HF 5 8 [(13, vI we), (12, vI k)] fun a HF => ?_
   refine qb rfl (wp_seq (qa ?_))
   refine fp HF 2 0 [(15, vI 0), (14, vI 0)] fun a HF => ?_
   refine qb rfl (wp_seq ?_)
   refine qag HM [.blk gw20 #[vI lim, .slice A73 o2.length c73] 93, .row (.slice A73 o2.length c73) o2.length (o2.map B8) 5 1, .blk g9 x.cells 30, .blk g7 #[vI lim, .slice Ap out.length cp] 71] [0, 1, 2, 4] [13] fun HM HS => ?_
   refine ap HF (fun _ => HS) [1, 3, 6] #[false, true, false, true, false, false, true, false, false, false, false, false, false, false, false, false] [(83, vP g9 3), (80, vP g9 2), (78, vP g9 1)] fun a HF => ?_
   refine ay HF HS 0 rfl rfl rfl (v := .agg #[vI lim, .slice Ap out.length cp]) (Yl.zc rfl rfl qak rfl (fun _ h => qf (h.blk (i := 3) rfl))) fun a HF => ?_
   refine ay HF HS 2 rfl rfl rfl (v := vB x.cpu) (Yl.qh rfl rfl (by kernel_rfl) (fun _ h => h.cell (i := 2) rfl (rfl))) fun a HF => ?_
   refine ay HF HS 4 rfl rfl rfl (v := .slice x.A x.l.length x.c) (Yl.qh rfl rfl (by kernel_rfl) (fun _ h => h.cell (i := 2) rfl (rfl))) fun a HF => ?_
   refine ay HF HS 7 rfl rfl rfl (v := vI x.opn) (Yl.qh rfl rfl (by kernel_rfl) (fun _ h => h.cell (i := 2) rfl (rfl))) fun a HF => ?_
   refine qj [5] (by kernel_rfl) rfl ?_
   refine all_cons ?_ all_nil
   refine qo HF (i := 5) rfl rfl ?_
   refine e_cl HF [.slice x.A x.l.length x.c] rfl rfl (qm2 x.A x.l.length x.c x.l _ (HM.old hxi.rd) rfl (by omega)) ?_
   rintro _ w82 ⟨⟨A82, c82, rfl, ho, hc82⟩, hbw⟩
   refine ⟨_, rfl, ?_⟩
   replace HM := HM.callRow hbw ho
   clear HF; intro a HF
   refine keepS (HM.picks [1, 2, 3, 5] (by decide) rfl) (fun HS => ?_)
   refine qj [8] (by kernel_rfl) rfl ?_
   refine all_cons ?_ all_nil
   refine qo HF (i := 8) rfl rfl ?_
   refine e_cl HF [.agg #[vI lim, .slice Ap out.length cp], vB x.cpu, .slice A82 x.l.length c82, vI x.opn] rfl rfl (qu8 w _ lim Ap cp out _ (HM.picks [4, 0, 1, 2, 3, 5] (by decide) rfl) hcp hout hlm x.cpu hxi.cpu A82 c82 x.l x.opn hxi.ok hxi.opn (HM.rd (i := 0) rfl) hc82 (by omega) hpw) ?_
   rintro _ w85 ⟨A85, c85, rfl, hc85, HM2⟩
   refine ⟨_, rfl, ?_⟩
   replace HM := HM2
   clear HF; intro a HF
   refine keepS (HM.picks [2, 3, 4, 5] (by decide) rfl) (fun HS => ?_)
   refine ap HF (fun _ => HS) [9, 10, 11, 12] #[true, true, true, true, true, true, true, true, true, true, true, true, true, false, false, false] [(88, vI we), (87, vI k), (86, .agg #[vI lim, .slice A85 o2.length c85])] fun a HF => ?_
   refine qj [13] (by kernel_rfl) rfl ?_
   refine all_cons ?_ all_nil
   refine qo HF (i := 13) rfl rfl ?_
   refine e_sa HF HM 5 rfl rfl rfl rfl rfl qak rfl rfl (by simp [Value.oneCell']) ?_
   clear HM; intro w18_13 HM
   refine noS (by kernel_rfl) ?_
   refine ap HF (pastS (by kernel_rfl)) [14, 15] #[true, true, true, true, true, true, true, true, true, true, true, true, true, true, true, true] [(15, vI we), (14, vI k)] fun a HF => ?_
   refine qn (by kernel_rfl) ?_
   refine wp_seq (qa ?_)
   refine fp HF 3 0 [(91, .bool ((k : Int) != (k : Int)))] fun a HF => ?_
   replace HF := HF.sp 91 (.bool false) rfl (by simp)
   refine fp HF 4 3 [(95, .bool ((we : Int) != (we : Int))), (92, .bool false)] fun a HF => ?_
   replace HF := HF.sp 95 (.bool false) rfl (by simp)
   refine fp HF 1 7 [(96, .bool false)] fun a HF => ?_
   refine qb rfl (qd HF rfl (wp_skip ?_))
   exact ⟨o2, A73, c73, A85, c85, HF.sub (by kernel_rfl), HM.picks [0, 5, 3, 2] (by decide) rfl, ho2, hc73, hc85⟩
  clear HF HM; rintro a wC ⟨o2, Aw, cw, Ax, cx, HF, HM, ho2, hcw, hcx⟩
  refine wp_seq (qa ?_)
  refine fp HF 1 0 [(97, vP gw20 0)] fun a HF => ?_
  refine fo HF 1 rfl rfl ?_
  refine e_cl HF [vP gw20 0] rfl rfl (qe6 gw20 lim Aw cw o2 _ (HM.blk (i := 3) rfl) (HM.rd (i := 2) rfl) ho2 (by omega)) ?_
  rintro _ w98 ⟨⟨A98, c98, rfl, ho, hc98⟩, hbw⟩
  refine ⟨_, rfl, ?_⟩
  replace HM := HM.callRow hbw ho
  clear HF; intro a HF
  refine fp HF 1 2 [(16, .slice A98 o2.length c98)] fun a HF => ?_
  refine qb rfl (wp_seq (wp_seq ?_))
  refine qag HM [.row (.slice A98 o2.length c98) o2.length (o2.map B8) 5 1, .row (.slice Ax o2.length cx) o2.length (o2.map B8) 5 1, .blk g7 #[vI lim, .slice Ax o2.length cx] 71, .row (.slice Aw o2.length cw) o2.length (o2.map B8) 5 1, .blk gw20 #[vI lim, .slice Aw o2.length cw] 93] [0, 1, 2, 3, 4] [] fun HM HS => ?_
  refine ap HF (fun _ => HS) [0, 2] #[true, false, true, false, false, false, false, false, false, false, false, false, false, false] [(101, vP g7 1), (99, .slice A98 o2.length c98)] fun a HF => ?_
  refine ay HF HS 1 rfl rfl rfl (v := .string (bstr o2)) (Yl.str rfl rfl (fun _ h => h.rd (i := 0) rfl)) fun a HF => ?_
  refine ay HF HS 3 rfl rfl rfl (Yl.qh rfl rfl (by kernel_rfl) (fun _ h => h.cell (i := 2) rfl rfl)) fun a HF => ?_
  refine ay HF HS 4 rfl rfl rfl (v := .string (bstr o2)) (Yl.str rfl rfl (fun _ h => h.rd (i := 1) rfl)) fun a HF => ?_
  refine zh HF (fun _ => HS) (i := 5) rfl rfl (d := 104) rfl (by decide) (by kernel_rfl) (fun _ _ _ h => h) (v := .bool (!(((bstr o2)).toList == ((bstr o2)).toList))) (fun _ => Yl.pure (by kernel_rfl)) fun a HF => ?_
  replace HF := HF.sp 104 (.bool false) rfl (by simp)
  refine ap HF (fun _ => HS) [6, 7, 9] #[true, true, true, true, true, true, true, true, false, true, false, false, false, false] [(108, vP g7 1), (106, vP gw20 0), (105, .bool false)] fun a HF => ?_
  refine ay HF HS 10 rfl rfl rfl (Yl.qh rfl rfl (by kernel_rfl) (fun _ h => h.cell (i := 2) rfl rfl)) fun a HF => ?_
  refine ay HF HS 11 rfl rfl rfl (Yl.len rfl rfl (by kernel_rfl)) fun a HF => ?_
  refine qj [8] (by kernel_rfl) rfl ?_
  refine all_cons ?_ all_nil
  refine qo HF (i := 8) rfl rfl ?_
  refine e_cl HF [vP gw20 0] rfl rfl (qqb gw20 lim Aw cw o2 _ (HM.blk (i := 4) rfl) (by omega) rfl) ?_
  rintro _ w107 ⟨rfl, hbw⟩
  refine ⟨_, rfl, ?_⟩
  replace HM := HM.call hbw
  clear HF; intro a HF
  refine keepS (HM.picks [0, 1, 2, 3, 4] (by decide) rfl) (fun HS => ?_)
  refine zh HF (fun _ => HS) (i := 12) rfl rfl (d := 111) rfl (by decide) (by kernel_rfl) (fun _ _ _ h => h) (v := .bool ((o2.length : Int) != (o2.length : Int))) (fun _ => Yl.pure (by kernel_rfl)) fun a HF => ?_
  replace HF := HF.sp 111 (.bool false) rfl (by simp)
  refine ap HF (fun _ => HS) [13] #[true, true, true, true, true, true, true, true, true, true, true, true, true, true] [(112, .bool false)] fun a HF => ?_
  refine qn (by kernel_rfl) ?_
  refine qd HF rfl (wp_skip (wp_seq (qa ?_)))
  refine fp HF 1 0 [(113, .slice A98 o2.length c98)] fun a HF => ?_
  refine fy HF HM 1 rfl rfl rfl (Yl.len rfl rfl (by kernel_rfl)) fun a HF => ?_
  refine fp HF 1 2 [(115, vI 0)] fun a HF => ?_
  refine qb rfl (wp_block ?_)
  refine qs (fun mS aS wS => ∃ (i : Nat) (zs : List Nat), (i ≤ o2.length) ∧ (zs.length = o2.length) ∧ mS = o2.length - i ∧ Fr aS 123 [] [(115, vI i), (114, vI o2.length), (112, .bool false), (16, .slice A98 o2.length c98), (45, vI j), (44, vI acts.length), (43, .slice (some ⟨gA, oA, none⟩) acts.length c), (7, vP g7 0), (5, vP gw20 0), (4, .bool false), (0, vI lim)] ∧ Mem w wS [.row (.slice A98 o2.length c98) o2.length (zs.map B8) 5 1, .row (.slice Ax o2.length cx) o2.length (o2.map B8) 5 1, .blk g7 #[vI lim, .slice Ax o2.length cx] 71, .row (.slice Aw o2.length cw) o2.length (o2.map B8) 5 1, .blk gw20 #[vI lim, .slice Aw o2.length cw] 93]) (m := o2.length - 0) ⟨0, o2, Nat.zero_le _, rfl, rfl, HF.sub (by kernel_rfl), HM.picks [0, 1, 2, 3, 4] (by decide) rfl⟩ ?_
  clear HF HM; rintro mS a w_ ⟨i, zs, hi, hz, rfl, HF, HM⟩
  refine wp_seq (qa ?_)
  refine fp HF 1 0 [(116, .bool (decide ((i : Int) < (o2.length : Int))))] fun a HF => ?_
  refine qb rfl (wp_seq ?_)
  rcases HF.tf 116 rfl with ⟨hb116, HF⟩ | ⟨hb116, HF⟩
  ·
   have hd116 := of_decide_eq_true hb116
   refine qe HF rfl (wp_skip (wp_seq (wp_block (wp_seq (qa ?_)))))
   refine fp HF 2 0 [(17, vI i)] fun a HF => ?_
   refine qb rfl (qa ?_)
   refine fp HF 2 0 [(119, vI i), (118, .slice A98 o2.length c98)] fun a HF => ?_
   obtain ⟨gA98, rfl⟩ := qch (HM.own (i := 0) rfl) (Nat.lt_of_le_of_lt (Nat.zero_le _) (show i < o2.length from by omega))
   refine fy HF HM 2 rfl rfl rfl (v := vP gA98 (i * 1)) (Yl.ix0 gA98 i 1 rfl rfl rfl) fun a HF => ?_
   refine fo HF 3 rfl rfl ?_
   refine qjb HF HM (i := 0) rfl rfl rfl rfl (by kernel_rfl) rfl rfl (by rw [List.length_map]; omega) ?_
   clear HM; intro w27_3 HM
   replace HM := HM.asRow (i := 0) (ys := (zs.set i 0).map B8) rfl (qly B8 zs i 0 (by omega))
   refine qb rfl (qa ?_)
   refine fp HF 1 0 [(121, vI (IntKind.i64.wrap ((i : Int) + 1)))] fun a HF => ?_
   replace HF := HF.sp 121 (vI (i + 1 : Nat)) rfl (qi (by omega) (by omega))
   refine fp HF 1 1 [(115, vI (i + 1 : Nat))] fun a HF => ?_
   refine qb rfl ?_
   exact ⟨_, (by omega), i + 1, (zs.set i 0), by omega, by rw [List.length_set]; exact hz, rfl, HF.sub (by kernel_rfl), HM.picks [0, 1, 2, 3, 4] (by decide) rfl⟩
  have hd116 := of_decide_eq_false hb116
  refine qd HF rfl (wp_exit (qa ?_))
  refine fp HF 1 0 [(122, vI (IntKind.i64.wrap ((j : Int) + 1)))] fun a HF => ?_
  replace HF := HF.sp 122 (vI (j + 1 : Nat)) rfl (qi (by omega) (by omega))
  refine fp HF 1 1 [(45, vI (j + 1 : Nat))] fun a HF => ?_
  refine qb rfl ?_
  exact ⟨_, (by omega), j + 1, o2, Aw, cw, Ax, cx, by omega, ho2, hcw, hcx, rfl, HF.sub (by kernel_rfl), HM.picks [1, 2, 3, 4] (by decide) rfl⟩
 have hd46 := of_decide_eq_false hb46
 refine qd HF rfl (wp_exit (wp_seq (qa ?_)))
 refine fp HF 1 0 [(4, .bool true)] fun a HF => ?_
 refine qb rfl (wp_ret ?_)
 exact ret1 rfl HF (.tmp HF rfl) (⟨rfl, HM.below⟩)
theorem qnl (lim : Int) (hlm : I64 lim) (A : Option Addr) (c : Nat) (acts : List Acx) (B : Nat) (w : World) (hL : LaidX B w) (hB : B ≤ w.heap.size) (hr : Rd w w.heap.size 5 A acts.length (acts.flatMap acL)) (hin : ∀ x ∈ acts, AcIn w x) (h60 : ∀ x ∈ acts, x.l.length ≤ 60) (hn : acts.length ≤ 1000000) :
  Calls Tryz.prog 8 #[.int .i64 lim, .slice A acts.length c] w (Is w (.bool true)) := by
 by_cases h : lim < 1 ∨ 4096 < lim
 ·exact qou lim hlm h A c acts w
 ·exact qov lim hlm (by omega) A c acts B w hL hB hr hin h60 hn
theorem qg1 (A : Option Addr) (c : Nat) (q : List Hb) (lim : Int) (hlm : I64 lim) (A2 : Option Addr) (c2 : Nat) (acts : List Acx) (B : Nat) (w : World) (hL : LaidX B w) (hB : B ≤ w.heap.size) (hr : Rd w w.heap.size 5 A q.length (q.flatMap hbL)) (hQ : HbRd w q) (hok : ∀ h ∈ q, h.b.Ok) (hr2 : Rd w w.heap.size 5 A2 acts.length (acts.flatMap acL)) (hin : ∀ x ∈ acts, AcIn w x) (hn : q.length ≤ 9223372036854775807) (hn2 : acts.length ≤ 9223372036854775807) :
    Calls Tryz.prog 3 #[.slice A q.length c, .int .i64 lim, .slice A2 acts.length c2] w (Is w (.bool true)) := by
 refine qg (vs := [.slice A q.length c, vI lim, .slice A2 acts.length c2]) Tryz.func3 rfl rfl (by kernel_rfl) (σ0 := [(0, .slice A q.length c), (1, vI lim), (2, .slice A2 acts.length c2)]) rfl ?_
 intro a HF
 have HM := Mem.start w
 refine wp_seq (qa ?_)
 refine fp HF 1 0 [(6, .bool false)] fun a HF => ?_
 refine qb rfl (wp_seq (wp_seq (qa ?_)))
 refine fp HF 1 0 [(11, .slice A q.length c)] fun a HF => ?_
 refine fy HF HM 1 rfl rfl rfl (Yl.len rfl rfl (by kernel_rfl)) fun a HF => ?_
 refine fp HF 2 2 [(14, .bool (decide ((q.length : Int) > (10 : Int))))] fun a HF => ?_
 rcases HF.tf 14 rfl with ⟨hb14, HF⟩ | ⟨hb14, HF⟩
 ·
  have hd14 := of_decide_eq_true hb14
  refine fp HF 4 4 [(18, .bool true)] fun a HF => ?_
  refine qb rfl (qe HF rfl (wp_seq (qa ?_)))
  refine fo HF 0 rfl rfl ?_
  refine e_is HF HM [] (.bool true) rfl rfl (qdd B _ (hL.mem HM hB) (HM.le hB)) fun w19 hbw HM a HF => ?_
  refine fp HF 1 1 [(6, .bool true)] fun a HF => ?_
  refine qb rfl (wp_ret ?_)
  exact ret1 rfl HF (.tmp HF rfl) (⟨rfl, HM.below⟩)
 have hd14 := of_decide_eq_false hb14
 refine fp HF 1 4 [(15, .slice A2 acts.length c2)] fun a HF => ?_
 refine fy HF HM 5 rfl rfl rfl (Yl.len rfl rfl (by kernel_rfl)) fun a HF => ?_
 refine fp HF 2 6 [(18, .bool (decide ((acts.length : Int) > (12 : Int))))] fun a HF => ?_
 refine qb rfl ?_
 rcases HF.tf 18 rfl with ⟨hb18, HF⟩ | ⟨hb18, HF⟩
 ·
  have hd18 := of_decide_eq_true hb18
  refine qe HF rfl (wp_seq (qa ?_))
  refine fo HF 0 rfl rfl ?_
  refine e_is HF HM [] (.bool true) rfl rfl (qdd B _ (hL.mem HM hB) (HM.le hB)) fun w19 hbw HM a HF => ?_
  refine fp HF 1 1 [(6, .bool true)] fun a HF => ?_
  refine qb rfl (wp_ret ?_)
  exact ret1 rfl HF (.tmp HF rfl) (⟨rfl, HM.below⟩)
 have hd18 := of_decide_eq_false hb18
 refine qd HF rfl (wp_skip (wp_seq (wp_seq (qa ?_))))
 refine fp HF 1 0 [(20, .slice A q.length c)] fun a HF => ?_
 refine fy HF HM 1 rfl rfl rfl (Yl.len rfl rfl (by kernel_rfl)) fun a HF => ?_
 refine fp HF 1 2 [(22, vI 0)] fun a HF => ?_
 refine qb rfl (wp_block ?_)
 refine qs (fun mS aS wS => ∃ (k : Nat), (k ≤ q.length) ∧ (∀ i, i < k → (q.getD i Hb.zero).b.evs.length ≤ 100) ∧ mS = q.length - k ∧ Fr aS 54 [] [(22, vI k), (21, vI q.length), (20, .slice A q.length c), (18, .bool false), (6, .bool false), (0, .slice A q.length c), (1, vI lim), (2, .slice A2 acts.length c2)] ∧ Mem w wS []) (m := q.length - 0) ⟨0, Nat.zero_le _, fun i h => by omega, rfl, HF.sub (by kernel_rfl), HM.picks [] (by decide) rfl⟩ ?_
 clear HF HM; rintro mS a w_ ⟨k, hk, hall, rfl, HF, HM⟩
 refine wp_seq (qa ?_)
 refine fp HF 1 0 [(23, .bool (decide ((k : Int) < (q.length : Int))))] fun a HF => ?_
 refine qb rfl (wp_seq ?_)
 rcases HF.tf 23 rfl with ⟨hb23, HF⟩ | ⟨hb23, HF⟩
 ·
  have hd23 := of_decide_eq_true hb23
  have hk23 : k < q.length := by omega
  refine qe HF rfl (wp_skip (wp_seq (wp_block (wp_seq (qa ?_)))))
  obtain ⟨gA, oA, rfl, _⟩ := hr.qy (Nat.lt_of_le_of_lt (Nat.zero_le _) (show k < q.length from by omega)) (by decide)
  refine fy HF HM 0 rfl rfl rfl (v := vP gA (oA + k * 5)) (Yl.ix gA oA k 5 rfl rfl rfl) fun a HF => ?_
  refine fy HF HM 1 rfl rfl rfl (v := .agg ((q.getD k Hb.zero).b.cells (q.getD k Hb.zero).A (q.getD k Hb.zero).c)) (Yl.zc rfl rfl si_bk rfl (fun _ h => (h.old hr).zt qcb ((getD_at Hb.zero hk23)))) fun a HF => ?_
  refine fo HF 2 rfl rfl ?_
  refine qt HF HM (cs := #[vB 0, vB 0, vI 0, vI 0, .slice none 0 0]) rfl (by kernel_rfl) rfl (by decide) ?_
  clear HF HM; intro a w8 g8 HF HM
  refine fo HF 3 rfl rfl ?_
  refine e_sa HF HM 0 rfl rfl rfl rfl rfl si_bk rfl rfl (qbk _ _ _) ?_
  clear HM; intro w5_3 HM
  refine qb rfl (wp_seq (qa ?_))
  refine fp HF 1 0 [(26, vP g8 4)] fun a HF => ?_
  refine fy HF HM 1 rfl rfl rfl (v := .slice ((q.getD k Hb.zero).A) ((q.getD k Hb.zero).b.evs.length) ((q.getD k Hb.zero).c)) (Yl.qh rfl rfl (by kernel_rfl) (fun _ h => h.cell (i := 0) rfl (rfl))) fun a HF => ?_
  refine fy HF HM 2 rfl rfl rfl (Yl.len rfl rfl (by kernel_rfl)) fun a HF => ?_
  refine fp HF 1 3 [(29, .bool (decide ((((q.getD k Hb.zero).b.evs.length : Nat) : Int) > (100 : Int))))] fun a HF => ?_
  refine qb rfl ?_
  rcases HF.tf 29 rfl with ⟨hb29, HF⟩ | ⟨hb29, HF⟩
  ·
   have hd29 := of_decide_eq_true hb29
   refine qe HF rfl (wp_seq (qa ?_))
   refine fo HF 0 rfl rfl ?_
   refine e_is HF HM [] (.bool true) rfl rfl (qdd B _ (hL.mem HM hB) (HM.le hB)) fun w30 hbw HM a HF => ?_
   refine fp HF 1 1 [(6, .bool true)] fun a HF => ?_
   refine qb rfl (wp_ret ?_)
   exact ret1 rfl HF (.tmp HF rfl) (⟨rfl, HM.below⟩)
  have hd29 := of_decide_eq_false hb29
  refine qd HF rfl (wp_skip (qa ?_))
  refine fp HF 1 0 [(31, vI (IntKind.i64.wrap ((k : Int) + 1)))] fun a HF => ?_
  replace HF := HF.sp 31 (vI (k + 1 : Nat)) rfl (qi (by omega) (by omega))
  refine fp HF 1 1 [(22, vI (k + 1 : Nat))] fun a HF => ?_
  refine qb rfl ?_
  exact ⟨_, (by omega), k + 1, by omega, qkb hall (by omega), rfl, HF.sub (by kernel_rfl), HM.picks [] (by decide) rfl⟩
 have hd23 := of_decide_eq_false hb23
 have hevm : ∀ h ∈ q, h.b.evs.length ≤ 1000000 := fun h hh => by obtain ⟨i, hi, rfl⟩ := qxx Hb.zero hh; have := hall i (by omega); omega
 refine qd HF rfl (wp_exit (wp_seq (wp_seq (qa ?_))))
 refine fp HF 1 0 [(32, .slice A2 acts.length c2)] fun a HF => ?_
 refine fy HF HM 1 rfl rfl rfl (Yl.len rfl rfl (by kernel_rfl)) fun a HF => ?_
 refine fp HF 1 2 [(34, vI 0)] fun a HF => ?_
 refine qb rfl (wp_block ?_)
 refine qs (fun mS aS wS => ∃ (j : Nat), (j ≤ acts.length) ∧ (∀ i, i < j → (acts.getD i Acx.zero).l.length ≤ 60) ∧ mS = acts.length - j ∧ Fr aS 54 [] [(34, vI j), (33, vI acts.length), (32, .slice A2 acts.length c2), (23, .bool false), (22, vI k), (21, vI q.length), (20, .slice A q.length c), (18, .bool false), (6, .bool false), (0, .slice A q.length c), (1, vI lim), (2, .slice A2 acts.length c2)] ∧ Mem w wS []) (m := acts.length - 0) ⟨0, Nat.zero_le _, fun i h => by omega, rfl, HF.sub (by kernel_rfl), HM.picks [] (by decide) rfl⟩ ?_
 clear HF HM; rintro mS a w_ ⟨j, hj, hal2, rfl, HF, HM⟩
 refine wp_seq (qa ?_)
 refine fp HF 1 0 [(35, .bool (decide ((j : Int) < (acts.length : Int))))] fun a HF => ?_
 refine qb rfl (wp_seq ?_)
 rcases HF.tf 35 rfl with ⟨hb35, HF⟩ | ⟨hb35, HF⟩
 ·
  have hd35 := of_decide_eq_true hb35
  have hj35 : j < acts.length := by omega
  refine qe HF rfl (wp_skip (wp_seq (wp_block (wp_seq (qa ?_)))))
  obtain ⟨gA2, oA2, rfl, _⟩ := hr2.qy (Nat.lt_of_le_of_lt (Nat.zero_le _) (show j < acts.length from by omega)) (by decide)
  refine fy HF HM 0 rfl rfl rfl (v := vP gA2 (oA2 + j * 5)) (Yl.ix gA2 oA2 j 5 rfl rfl rfl) fun a HF => ?_
  refine fy HF HM 1 rfl rfl rfl (v := .agg ((acts.getD j Acx.zero).cells)) (Yl.zc rfl rfl si_ac rfl (fun _ h => (h.old hr2).zt qog ((getD_at Acx.zero hj35)))) fun a HF => ?_
  refine fo HF 2 rfl rfl ?_
  refine qt HF HM (cs := #[.bool false, vB 0, .slice none 0 0, vI 0, vI 0]) rfl (by kernel_rfl) rfl (by decide) ?_
  clear HF HM; intro a w10 g10 HF HM
  refine fo HF 3 rfl rfl ?_
  refine e_sa HF HM 0 rfl rfl rfl rfl rfl si_ac rfl rfl (qxp (acts.getD j Acx.zero)) ?_
  clear HM; intro w11_3 HM
  refine qb rfl (wp_seq (qa ?_))
  refine fp HF 1 0 [(38, vP g10 2)] fun a HF => ?_
  refine fy HF HM 1 rfl rfl rfl (v := .slice ((acts.getD j Acx.zero).A) ((acts.getD j Acx.zero).l.length) ((acts.getD j Acx.zero).c)) (Yl.qh rfl rfl (by kernel_rfl) (fun _ h => h.cell (i := 0) rfl (rfl))) fun a HF => ?_
  refine fy HF HM 2 rfl rfl rfl (Yl.len rfl rfl (by kernel_rfl)) fun a HF => ?_
  refine fp HF 1 3 [(41, .bool (decide ((((acts.getD j Acx.zero).l.length : Nat) : Int) > (60 : Int))))] fun a HF => ?_
  refine qb rfl ?_
  rcases HF.tf 41 rfl with ⟨hb41, HF⟩ | ⟨hb41, HF⟩
  ·
   have hd41 := of_decide_eq_true hb41
   refine qe HF rfl (wp_seq (qa ?_))
   refine fo HF 0 rfl rfl ?_
   refine e_is HF HM [] (.bool true) rfl rfl (qdd B _ (hL.mem HM hB) (HM.le hB)) fun w42 hbw HM a HF => ?_
   refine fp HF 1 1 [(6, .bool true)] fun a HF => ?_
   refine qb rfl (wp_ret ?_)
   exact ret1 rfl HF (.tmp HF rfl) (⟨rfl, HM.below⟩)
  have hd41 := of_decide_eq_false hb41
  refine qd HF rfl (wp_skip (qa ?_))
  refine fp HF 1 0 [(43, vI (IntKind.i64.wrap ((j : Int) + 1)))] fun a HF => ?_
  replace HF := HF.sp 43 (vI (j + 1 : Nat)) rfl (qi (by omega) (by omega))
  refine fp HF 1 1 [(34, vI (j + 1 : Nat))] fun a HF => ?_
  refine qb rfl ?_
  exact ⟨_, (by omega), j + 1, by omega, qkb hal2 (by omega), rfl, HF.sub (by kernel_rfl), HM.picks [] (by decide) rfl⟩
 have hd35 := of_decide_eq_false hb35
 have h60 : ∀ x ∈ acts, x.l.length ≤ 60 := fun h hh => by obtain ⟨i, hi, rfl⟩ := qxx Acx.zero hh; exact hal2 i (by omega)
 refine qd HF rfl (wp_exit (wp_seq (qa ?_)))
 refine fp HF 1 0 [(44, .slice A q.length c)] fun a HF => ?_
 refine fo HF 1 rfl rfl ?_
 refine e_is HF HM [.slice A q.length c] (.bool true) rfl rfl (qnk A c q B _ (hL.mem HM hB) (HM.le hB) (HM.old hr) (hQ.old HM) hok hevm (by omega)) fun w45 hbw HM a HF => ?_
 refine fp HF 3 2 [(48, .slice A2 acts.length c2), (47, vI lim), (46, .bool true)] fun a HF => ?_
 refine fo HF 5 rfl rfl ?_
 refine e_is HF HM [vI lim, .slice A2 acts.length c2] (.bool true) rfl rfl (qnl lim hlm A2 c2 acts B _ (hL.mem HM hB) (HM.le hB) (HM.old hr2) (fun y hy => (hin y hy).old HM) h60 (by omega)) fun w49 hbw HM a HF => ?_
 refine fp HF 2 6 [(51, .bool true)] fun a HF => ?_
 refine fo HF 8 rfl rfl ?_
 refine e_is HF HM [] (.bool true) rfl rfl (qdd B _ (hL.mem HM hB) (HM.le hB)) fun w52 hbw HM a HF => ?_
 refine fp HF 2 9 [(6, .bool true)] fun a HF => ?_
 refine qb rfl (wp_ret ?_)
 exact ret1 rfl HF (.tmp HF rfl) (⟨rfl, HM.below⟩)
end Go.Proofs.YtfeheccoijnbaaaGreatDoor
