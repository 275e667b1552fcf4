/- Texts laid together: LinW, Ref06i, RWithW, Ref07P, Ref07Q, KitP, KitW, RefBP, RefBQ, RefBL, RightW, PutW, RowW, TakeW, ReadW, WriteW. -/
import Derived.Test.YtnakabnmjnfpcaaDoorCardReadsQRef01
import Derived.Test.YtnakabnmjnfpcaaDoorCardReadsQRef06f
import Derived.Test.YtnakabnmjnfpcaaDoorCardReadsQRWith
import Derived.Test.YtnakabnmjnfpcaaDoorCardReadsQBlkR
import Derived.Test.YtnakabnmjnfpcaaDoorCardReadsZ2
set_option linter.all false
namespace Go.Proofs.YtnakabnmjnfpcaaDoor
open Go.RowKit
set_option maxRecDepth 100000 in
set_option maxHeartbeats 4000000 in
theorem bits_any (A : Option Addr) (c y : Nat) (hy : y < 256) (w : World) (hr : Rd w w.heap.size 1 A 1 ([y].map B8)) :
    Calls Tryd.prog 101 #[.slice A 1 c] w (PolIs w (bitsOf y)) := by
 refine calls_enter (vs := [.slice A 1 c]) Tryd.func101 rfl rfl (by kernel_rfl) (σ0 := [(0, .slice A 1 c)]) rfl ?_
 intro a HF
 have HM := Mem.start w
 refine wp_seq (from_start ?_)
 refine fp HF 1 0 [(2, .slice none 0 0)] ?_; clear HF; intro a HF
 refine from_done rfl ?_
 refine wp_seq (from_start ?_)
 refine fp HF 1 0 [(6, .slice A 1 c)] ?_; clear HF; intro a HF
 refine fy HF HM 1 rfl rfl rfl (Yl.len rfl rfl (by kernel_rfl)) ?_; clear HF; intro a HF
 refine fp HF 2 2 [(3, vI 8), (8, vI 8)] ?_; clear HF; intro a HF
 refine from_done rfl ?_
 refine wp_seq (from_start ?_)
 refine fp HF 2 0 [(10, vI 40), (9, vI 8)] ?_; clear HF; intro a HF
 refine from_op HF (i := 2) rfl rfl ?_
 refine e_makeN HF HM (m := 40) rfl ei_pol rfl rfl (by omega) (by omega) rfl (by decide) ?_
 clear HF HM; intro a w11 g11 HF HM
 refine fp HF 1 3 [(4, vS g11 40 40)] ?_; clear HF; intro a HF
 refine from_done rfl ?_
 have hnsomeg110none : 40 = 40 := rfl
 replace HM := HM.reRow (i := 0) (ys := (bitsUp y 0).map I64v) rfl hnsomeg110none (by rw [bitsUp_zero]; kernel_rfl)
 replace HF := HF.as (t := 4) (u := vS g11 40 40) rfl (by rw [hnsomeg110none])
 replace HF := HF.as (t := 11) (u := vS g11 40 40) rfl (by rw [hnsomeg110none])
 refine wp_seq (wp_seq (from_start ?_))
 refine fp HF 1 0 [(5, vI 0)] ?_; clear HF; intro a HF
 refine from_done rfl ?_
 refine wp_block ?_
 refine loop_nat (fun mS aS wS => ∃ (k : Nat), (k ≤ 8) ∧ mS = 8 - k ∧ Fr aS 52 [] [(5, vI k), (11, vS g11 40 40), (4, vS g11 40 40), (3, vI 8), (2, .slice none 0 0), (0, .slice A 1 c)] ∧ Mem w wS [.row (vS g11 40 40) 40 ((bitsUp y k).map I64v) 3 1]) (m := 8 - 0) ⟨0, by omega, rfl, HF.sub (by kernel_rfl), HM.picks [0] (by decide) rfl⟩ ?_
 clear HF HM; rintro mS a w_ ⟨k, hk, rfl, HF, HM⟩
 refine wp_seq (wp_seq (from_start ?_))
 refine fp HF 3 0 [(14, .bool (decide ((k : Int) < (8 : Int)))), (13, vI 8), (12, vI k)] ?_; clear HF; intro a HF
 refine from_done rfl ?_
 rcases Bool.eq_false_or_eq_true (decide ((k : Int) < (8 : Int))) with hb14 | hb14
 ·have HF := HF.on 14 hb14
  have hd14 := of_decide_eq_true hb14
  have hk8 : k < 8 := by omega
  refine cond_true HF rfl (wp_skip (wp_seq (wp_block (from_start ?_))))
  refine fp HF 6 0 [(22, vI (IntKind.i64.wrap (39 - (k : Int)))), (21, vI k), (20, vI 39), (19, vI 40), (18, vI 8), (17, vS g11 40 40)] ?_; clear HF; intro a HF
  replace HF := HF.as (t := 22) (u := vI (39 - k : Nat)) rfl (i64_nat (by omega) (by omega))
  refine fp HF 3 6 [(25, vI (IntKind.i64.wrap (Int.tdiv (k : Int) 8))), (24, vI k), (23, .slice A 1 c)] ?_; clear HF; intro a HF
  replace HF := HF.as (t := 25) (u := vI (k / 8 : Nat)) rfl (tdiv_nat .i64 8 (by show _ ≤ 9223372036854775807; omega))
  obtain ⟨gA, oA, rfl, _⟩ := hr.some_at (Nat.lt_of_le_of_lt (Nat.zero_le _) (show k / 8 < 1 from by omega)) (by decide)
  refine fy HF HM 9 rfl rfl rfl (v := vP gA (oA + (k / 8) * 1)) ((Yl.indexAddr (ad := ⟨gA, oA, none⟩) (y := k / 8) (sz := 1) rfl rfl rfl (by omega) (by kernel_rfl)).as (by rw [Addr.add_mid])) ?_; clear HF; intro a HF
  refine fy HF HM 10 rfl rfl rfl (v := vB ([y].getD (k / 8) 0)) (Yl.load1 rfl rfl (by kernel_rfl) (fun _ h => (h.old hr).oneAt1 (k := (k / 8)) (map_at (F := B8) (k := (k / 8)) (x := ([y].getD (k / 8) 0)) ((getD_at 0 (k := (k / 8)) (by first | omega | (simp; omega))))))) ?_; clear HF; intro a HF
  replace HF := HF.as (t := 27) (u := vB y) rfl (by rw [show k / 8 = 0 by omega]; rfl)
  refine fp HF 2 11 [(29, vI (Int.tmod (k : Int) 8)), (28, vI k)] ?_; clear HF; intro a HF
  replace HF := HF.as (t := 29) (u := vI (k % 8 : Nat)) rfl (tmod_nat .i64 _ 8)
  refine fy HF HM 13 rfl rfl rfl (v := vB (y / 2 ^ (k % 8) : Nat)) (Yl.shrN (m := y) (n := (k % 8)) rfl rfl rfl (by show _ ≤ 8; omega)) ?_; clear HF; intro a HF
  refine fp HF 1 14 [(31, vB (Int.tmod ((y / 2 ^ (k % 8) : Nat) : Int) 2))] ?_; clear HF; intro a HF
  replace HF := HF.as (t := 31) (u := vB ((y / 2 ^ (k % 8)) % 2 : Nat)) rfl (tmod_nat .u8 _ 2)
  refine fp HF 1 15 [(32, vI (IntKind.i64.wrap (((y / 2 ^ (k % 8)) % 2 : Nat) : Int)))] ?_; clear HF; intro a HF
  replace HF := HF.as (t := 32) (u := vI ((y / 2 ^ (k % 8)) % 2 : Nat)) rfl (i64_nat rfl (by omega))
  refine fy HF HM 16 rfl rfl rfl (v := vP g11 ((39 - k) * 1)) ((Yl.indexAddr (ad := ⟨g11, 0, none⟩) (y := 39 - k) (sz := 1) rfl rfl rfl (by omega) (by kernel_rfl)).as (by rw [Addr.add_mid, Nat.zero_add])) ?_; clear HF; intro a HF
  refine from_op HF (i := 17) rfl rfl ?_
  refine e_storeRow HF HM (i := 0) rfl rfl rfl rfl (by kernel_rfl) rfl rfl (by rw [List.length_map, bitsUp_len]; omega) ?_
  clear HM; intro w6_17 HM
  replace HM := HM.asRow (i := 0) (ys := (bitsUp y (k + 1)).map I64v) rfl ((putAt_one I64v (bitsUp y k) (39 - k) (y / 2 ^ (k % 8) % 2) (by rw [bitsUp_len]; omega)).trans (by rw [show k % 8 = k by omega, bitsUp_succ (by omega)]))
  refine from_done rfl ?_
  replace HF := HF.to [(14, .bool true), (5, vI k), (11, vS g11 40 40), (4, vS g11 40 40), (3, vI 8), (2, .slice none 0 0), (0, .slice (some ⟨gA, oA, none⟩) 1 c)]
  refine from_start ?_
  refine fp HF 2 0 [(16, vI (IntKind.i64.wrap ((k : Int) + 1))), (15, vI k)] ?_; clear HF; intro a HF
  replace HF := HF.as (t := 16) (u := vI (k + 1 : Nat)) rfl (i64_nat (by omega) (by omega))
  refine fp HF 1 2 [(5, vI (k + 1 : Nat))] ?_; clear HF; intro a HF
  refine from_done rfl ?_
  exact ⟨_, (by omega), k + 1, by omega, rfl, HF.sub (by kernel_rfl), HM.picks [0] (by decide) rfl⟩
 ·have HF := HF.on 14 hb14
  have hd14 := of_decide_eq_false hb14
  obtain rfl : k = 8 := by omega
  refine cond_false HF rfl (wp_exit (wp_seq (wp_block ?_)))
  refine loop_nat (fun mS aS wS => ∃ (j : Nat), (j ≤ 40) ∧ (trimL ((bitsUp y 8).take j) = trimL (bitsUp y 8)) ∧ mS = 0 + j ∧ Fr aS 52 [] [(14, .bool false), (5, vI 8), (11, vS g11 40 40), (4, vS g11 j 40), (3, vI 8), (2, .slice none 0 0), (0, .slice A 1 c)] ∧ Mem w wS [.row (vS g11 40 40) 40 ((bitsUp y 8).map I64v) 3 1]) (m := 0 + 40) ⟨40, by omega, by rw [List.take_of_length_le (by rw [bitsUp_len]; omega)], rfl, HF.sub (by kernel_rfl), HM.picks [0] (by decide) rfl⟩ ?_
  clear HF HM; rintro mS a w_ ⟨j, hj, ht, rfl, HF, HM⟩
  have hbl := bitsUp_len y 8
  refine wp_seq (wp_seq (from_start ?_))
  refine fp HF 1 0 [(34, vS g11 j 40)] ?_; clear HF; intro a HF
  refine fy HF HM 1 rfl rfl rfl (Yl.len rfl rfl (by kernel_rfl)) ?_; clear HF; intro a HF
  refine fp HF 2 2 [(37, .bool (decide ((j : Int) > (0 : Int)))), (36, .bool (decide ((j : Int) > (0 : Int))))] ?_; clear HF; intro a HF
  rcases Bool.eq_false_or_eq_true (decide ((j : Int) > (0 : Int))) with hb37 | hb37
  ·have HF := HF.on 37 hb37
   have hd37 := of_decide_eq_true hb37
   have hj0 : 0 < j := by omega
   refine fp HF 2 4 [(39, vS g11 j 40), (38, vS g11 j 40)] ?_; clear HF; intro a HF
   refine fy HF HM 6 rfl rfl rfl (Yl.len rfl rfl (by kernel_rfl)) ?_; clear HF; intro a HF
   refine fp HF 1 7 [(41, vI (IntKind.i64.wrap ((j : Int) - 1)))] ?_; clear HF; intro a HF
   replace HF := HF.as (t := 41) (u := vI (j - 1 : Nat)) rfl (i64_nat (by omega) (by omega))
   refine fy HF HM 8 rfl rfl rfl (v := vP g11 ((j - 1) * 1)) ((Yl.indexAddr (ad := ⟨g11, 0, none⟩) (y := j - 1) (sz := 1) rfl rfl rfl (by omega) (by kernel_rfl)).as (by rw [Addr.add_mid, Nat.zero_add])) ?_; clear HF; intro a HF
   refine fy HF HM 9 rfl rfl rfl (v := vI ((bitsUp y 8).getD (j - 1) 0)) (Yl.load1 rfl rfl (by kernel_rfl) (fun _ h => h.rowOne (i := 0) rfl (k := (j - 1)) (map_at (F := I64v) (k := (j - 1)) (x := ((bitsUp y 8).getD (j - 1) 0)) ((getD_at 0 (k := (j - 1)) (by first | omega | (simp; omega))))))) ?_; clear HF; intro a HF
   refine fp HF 2 10 [(45, .bool ((((bitsUp y 8).getD (j - 1) 0) : Int) == (0 : Int))), (44, .bool ((((bitsUp y 8).getD (j - 1) 0) : Int) == (0 : Int)))] ?_; clear HF; intro a HF
   refine from_done rfl ?_
   rcases Bool.eq_false_or_eq_true ((((bitsUp y 8).getD (j - 1) 0) : Int) == (0 : Int)) with hb45 | hb45
   ·have HF := HF.on 45 hb45
    have hd45 := eq_of_beq hb45
    refine cond_true HF rfl (wp_skip (wp_block (from_start ?_)))
    refine fp HF 2 0 [(47, vS g11 j 40), (46, vS g11 j 40)] ?_; clear HF; intro a HF
    refine fy HF HM 2 rfl rfl rfl (Yl.len rfl rfl (by kernel_rfl)) ?_; clear HF; intro a HF
    refine fp HF 1 3 [(49, vI (IntKind.i64.wrap ((j : Int) - 1)))] ?_; clear HF; intro a HF
    replace HF := HF.as (t := 49) (u := vI (j - 1 : Nat)) rfl (i64_nat (by omega) (by omega))
    refine fy HF HM 4 rfl rfl rfl (v := vS g11 (j - 1) 40) (Yl.sliceUpto ei_pol (j := j - 1) rfl rfl rfl (by omega)) ?_; clear HF; intro a HF
    refine fp HF 1 5 [(4, vS g11 (j - 1) 40)] ?_; clear HF; intro a HF
    refine from_done rfl ?_
    replace HF := HF.to [(4, vS g11 (j - 1) 40), (45, .bool true), (14, .bool false), (5, vI 8), (11, vS g11 40 40), (3, vI 8), (2, .slice none 0 0), (0, .slice A 1 c)]
    exact ⟨_, (by omega), (j - 1), by omega, trim_step (by omega) (by omega) (by omega) ht, rfl, HF.sub (by kernel_rfl), HM.picks [0] (by decide) rfl⟩
   ·have HF := HF.on 45 hb45
    have hd45 := ne_of_beq_false hb45
    refine cond_false HF rfl (wp_exit (wp_seq (from_start ?_)))
    refine fp HF 2 0 [(2, vS g11 j 40), (51, vS g11 j 40)] ?_; clear HF; intro a HF
    refine from_done rfl ?_
    refine wp_ret ?_
    have hjt := trim_stop (l := bitsUp y 8) (k := j) (by omega) (fun _ => by omega) ht
    have hjl : (bitsOf y).length = j := by rw [← bitsUp_all, hjt, List.length_take]; omega
    have HM2 := HM.cutRow (i := 0) (m := (bitsOf y).length) (ys := (bitsOf y).map I64v) rfl (by omega) (by rw [Nat.mul_one, ← List.map_take, hjl, ← hjt]; rfl)
    exact ret1 rfl HF (.tmp HF rfl) (⟨⟨some ⟨g11, 0, none⟩, 40, by rw [hjl], HM2.own (i := 0) rfl, by omega⟩, HM.below⟩)
  ·have HF := HF.on 37 hb37
   have hd37 := of_decide_eq_false hb37
   refine fp HF 8 4 [(45, .bool false), (44, undef), (43, undef), (42, undef), (41, undef), (40, undef), (39, undef), (38, undef)] ?_; clear HF; intro a HF
   refine from_done rfl ?_
   refine cond_false HF rfl (wp_exit (wp_seq (from_start ?_)))
   refine fp HF 2 0 [(2, vS g11 j 40), (51, vS g11 j 40)] ?_; clear HF; intro a HF
   refine from_done rfl ?_
   refine wp_ret ?_
   have hjt := trim_stop (l := bitsUp y 8) (k := j) (by omega) (fun _ => by omega) ht
   have hjl : (bitsOf y).length = j := by rw [← bitsUp_all, hjt, List.length_take]; omega
   have HM2 := HM.cutRow (i := 0) (m := (bitsOf y).length) (ys := (bitsOf y).map I64v) rfl (by omega) (by rw [Nat.mul_one, ← List.map_take, hjl, ← hjt]; rfl)
   exact ret1 rfl HF (.tmp HF rfl) (⟨⟨some ⟨g11, 0, none⟩, 40, by rw [hjl], HM2.own (i := 0) rfl, by omega⟩, HM.below⟩)
theorem ofgen_any (w : World) : Calls Tryd.prog 102 #[.int .u64 4374732215] w (PolIs w genP) := polof_any 4374732215 (by decide) w
theorem genlen : 0 < genP.length := by rw [gen_len]; decide
set_option maxRecDepth 100000 in
set_option maxHeartbeats 4000000 in
theorem linear_zero (A : Option Addr) (c : Nat) (w : World) (hr : Rd w w.heap.size 1 A 1 ([0].map B8)) :
    Calls Tryd.prog 89 #[.slice A 1 c] w (Is w (.int .u32 (crcT 0 : Int))) := by
 refine calls_enter (vs := [.slice A 1 c]) Tryd.func89 rfl rfl (by kernel_rfl) (σ0 := [(0, .slice A 1 c)]) rfl ?_
 intro a HF
 have HM := Mem.start w
 refine wp_seq (from_start ?_)
 refine fp HF 1 0 [(2, vW 0)] ?_; clear HF; intro a HF
 refine from_done rfl ?_
 refine wp_seq (from_start ?_)
 refine fp HF 1 0 [(8, .slice A 1 c)] ?_; clear HF; intro a HF
 refine from_op HF (i := 1) rfl rfl ?_
 refine e_call HF (vs := [.slice A 1 c]) rfl (by kernel_rfl) (by kernel_rfl) rfl (by decide) (bits_any _ _ 0 (by omega) _ (HM.old hr)) ?_
 rintro _ w9 ⟨⟨A9, c9, rfl, ho, hc9⟩, hbw⟩
 refine ⟨_, rfl, ?_⟩
 replace HM := HM.callRow hbw ho
 clear HF; intro a HF
 refine from_op HF (i := 2) rfl rfl ?_
 refine e_call HF (vs := [vQ 4374732215]) rfl (by kernel_rfl) (by kernel_rfl) rfl (by decide) (ofgen_any _) ?_
 rintro _ w10 ⟨⟨A10, c10, rfl, ho, hc10⟩, hbw⟩
 refine ⟨_, rfl, ?_⟩
 replace HM := HM.callRow hbw ho
 clear HF; intro a HF
 refine from_op HF (i := 3) rfl rfl ?_
 refine e_call HF (vs := [.slice A9 ((bitsOf 0).length) c9, .slice A10 ((genP).length) c10]) rfl (by kernel_rfl) (by kernel_rfl) rfl (by decide) (divide_any _ _ _ _ (bitsOf 0) genP _ (bits01 _) (poly01 _) (bitsTr _) (polyTr _) genlen (HM.rd (i := 1) rfl) (HM.rd (i := 0) rfl) (by have := bits_len 0; omega) (by rw [gen_len]; decide)) ?_
 rintro _ w11 ⟨⟨vq, X, cX, rfl, hd1, hd2⟩, hbw⟩
 refine ⟨_, rfl, ?_⟩
 replace HM := HM.call hbw
 clear HF; intro a HF
 refine fp HF 5 4 [(4, .slice X ((linR 0).length) cX), (3, vq), (13, .slice X ((linR 0).length) cX), (12, vq), (7, .tuple #[vq, .slice X ((linR 0).length) cX])] ?_; clear HF; intro a HF
 refine from_done rfl ?_
 replace HM := HM.picks (fs' := []) [] (by decide) rfl
 have hl32 := linR_len 0
 have hl0 : (linR 0).length = 0 := by rw [linR_zero]; rfl
 refine wp_seq (from_start ?_)
 refine fp HF 1 0 [(5, vW 0)] ?_; clear HF; intro a HF
 refine from_done rfl ?_
 refine wp_seq (wp_seq (from_start ?_))
 refine fp HF 1 0 [(6, vI 0)] ?_; clear HF; intro a HF
 refine from_done rfl ?_
 refine wp_block ?_
 refine loop_nat (fun mS aS wS => ∃ (k : Nat), (k ≤ (linR 0).length) ∧ mS = (linR 0).length - k ∧ Fr aS 31 [] [(6, vI k), (5, vW (remUp (linR 0) k)), (4, .slice X ((linR 0).length) cX), (2, vW 0)] ∧ Mem w wS []) (m := (linR 0).length - 0) ⟨0, Nat.zero_le _, rfl, HF.sub (by kernel_rfl), HM.picks [] (by decide) rfl⟩ ?_
 clear HF HM; rintro mS a w_ ⟨k, hk, rfl, HF, HM⟩
 refine wp_seq (wp_seq (from_start ?_))
 refine fp HF 2 0 [(15, .slice X ((linR 0).length) cX), (14, vI k)] ?_; clear HF; intro a HF
 refine fy HF HM 2 rfl rfl rfl (Yl.len rfl rfl (by kernel_rfl)) ?_; clear HF; intro a HF
 refine fp HF 1 3 [(17, .bool (decide ((k : Int) < (((linR 0).length : Nat) : Int))))] ?_; clear HF; intro a HF
 refine from_done rfl ?_
 rcases Bool.eq_false_or_eq_true (decide ((k : Int) < (((linR 0).length : Nat) : Int))) with hb17 | hb17
 ·have HF := HF.on 17 hb17
  have hd17 := of_decide_eq_true hb17
  omega
 ·have HF := HF.on 17 hb17
  have hd17 := of_decide_eq_false hb17
  refine cond_false HF rfl (wp_exit (wp_seq (from_start ?_)))
  refine fp HF 2 0 [(2, vW (remUp (linR 0) k)), (30, vW (remUp (linR 0) k))] ?_; clear HF; intro a HF
  refine from_done rfl ?_
  refine wp_ret ?_
  exact ret1 rfl HF (.tmp HF rfl) (⟨by rw [show k = (linR 0).length by omega, remUp_all, linR_is, refLin_eq 0 (by omega)], HM.below⟩)
set_option maxRecDepth 100000 in
set_option maxHeartbeats 4000000 in
theorem linear_pos (A : Option Addr) (c y : Nat) (hy : y < 256) (hy0 : y ≠ 0) (w : World) (hr : Rd w w.heap.size 1 A 1 ([y].map B8)) :
    Calls Tryd.prog 89 #[.slice A 1 c] w (Is w (.int .u32 (crcT y : Int))) := by
 refine calls_enter (vs := [.slice A 1 c]) Tryd.func89 rfl rfl (by kernel_rfl) (σ0 := [(0, .slice A 1 c)]) rfl ?_
 intro a HF
 have HM := Mem.start w
 refine wp_seq (from_start ?_)
 refine fp HF 1 0 [(2, vW 0)] ?_; clear HF; intro a HF
 refine from_done rfl ?_
 refine wp_seq (from_start ?_)
 refine fp HF 1 0 [(8, .slice A 1 c)] ?_; clear HF; intro a HF
 refine from_op HF (i := 1) rfl rfl ?_
 refine e_call HF (vs := [.slice A 1 c]) rfl (by kernel_rfl) (by kernel_rfl) rfl (by decide) (bits_any _ _ y (by omega) _ (HM.old hr)) ?_
 rintro _ w9 ⟨⟨A9, c9, rfl, ho, hc9⟩, hbw⟩
 refine ⟨_, rfl, ?_⟩
 replace HM := HM.callRow hbw ho
 clear HF; intro a HF
 refine from_op HF (i := 2) rfl rfl ?_
 refine e_call HF (vs := [vQ 4374732215]) rfl (by kernel_rfl) (by kernel_rfl) rfl (by decide) (ofgen_any _) ?_
 rintro _ w10 ⟨⟨A10, c10, rfl, ho, hc10⟩, hbw⟩
 refine ⟨_, rfl, ?_⟩
 replace HM := HM.callRow hbw ho
 clear HF; intro a HF
 refine from_op HF (i := 3) rfl rfl ?_
 refine e_call HF (vs := [.slice A9 ((bitsOf y).length) c9, .slice A10 ((genP).length) c10]) rfl (by kernel_rfl) (by kernel_rfl) rfl (by decide) (divide_any _ _ _ _ (bitsOf y) genP _ (bits01 _) (poly01 _) (bitsTr _) (polyTr _) genlen (HM.rd (i := 1) rfl) (HM.rd (i := 0) rfl) (by have := bits_len y; omega) (by rw [gen_len]; decide)) ?_
 rintro _ w11 ⟨⟨vq, X, cX, rfl, hd1, hd2⟩, hbw⟩
 obtain ⟨ho, hcX⟩ := hd2 (by rw [gen_len]; exact bits_pos y hy hy0)
 refine ⟨_, rfl, ?_⟩
 replace HM := HM.callRow hbw ho
 clear HF; intro a HF
 refine fp HF 5 4 [(4, .slice X ((linR y).length) cX), (3, vq), (13, .slice X ((linR y).length) cX), (12, vq), (7, .tuple #[vq, .slice X ((linR y).length) cX])] ?_; clear HF; intro a HF
 refine from_done rfl ?_
 replace HM := HM.picks (fs' := [.row (.slice X ((linR y).length) cX) ((linR y).length) ((linR y).map I64v) 3 1]) [0] (by decide) rfl
 have hl32 := linR_len y
 refine wp_seq (from_start ?_)
 refine fp HF 1 0 [(5, vW 0)] ?_; clear HF; intro a HF
 refine from_done rfl ?_
 refine wp_seq (wp_seq (from_start ?_))
 refine fp HF 1 0 [(6, vI 0)] ?_; clear HF; intro a HF
 refine from_done rfl ?_
 refine wp_block ?_
 refine loop_nat (fun mS aS wS => ∃ (k : Nat), (k ≤ (linR y).length) ∧ mS = (linR y).length - k ∧ Fr aS 31 [] [(6, vI k), (5, vW (remUp (linR y) k)), (4, .slice X ((linR y).length) cX), (2, vW 0)] ∧ Mem w wS [.row (.slice X ((linR y).length) cX) ((linR y).length) ((linR y).map I64v) 3 1]) (m := (linR y).length - 0) ⟨0, Nat.zero_le _, rfl, HF.sub (by kernel_rfl), HM.picks [0] (by decide) rfl⟩ ?_
 clear HF HM; rintro mS a w_ ⟨k, hk, rfl, HF, HM⟩
 refine wp_seq (wp_seq (from_start ?_))
 refine fp HF 2 0 [(15, .slice X ((linR y).length) cX), (14, vI k)] ?_; clear HF; intro a HF
 refine fy HF HM 2 rfl rfl rfl (Yl.len rfl rfl (by kernel_rfl)) ?_; clear HF; intro a HF
 refine fp HF 1 3 [(17, .bool (decide ((k : Int) < (((linR y).length : Nat) : Int))))] ?_; clear HF; intro a HF
 refine from_done rfl ?_
 rcases Bool.eq_false_or_eq_true (decide ((k : Int) < (((linR y).length : Nat) : Int))) with hb17 | hb17
 ·have HF := HF.on 17 hb17
  have hd17 := of_decide_eq_true hb17
  have hk31 : k < 32 := by omega
  refine cond_true HF rfl (wp_skip (wp_seq (wp_block (wp_seq (from_start ?_)))))
  refine fp HF 2 0 [(21, vI k), (20, .slice X ((linR y).length) cX)] ?_; clear HF; intro a HF
  obtain ⟨gX, rfl⟩ := own_some (HM.own (i := 0) rfl) (Nat.lt_of_le_of_lt (Nat.zero_le _) (show k < (linR y).length from by omega))
  refine fy HF HM 2 rfl rfl rfl (v := vP gX (k * 1)) ((Yl.indexAddr (ad := ⟨gX, 0, none⟩) (y := k) (sz := 1) rfl rfl rfl (by omega) (by kernel_rfl)).as (by rw [Addr.add_mid, Nat.zero_add])) ?_; clear HF; intro a HF
  refine fy HF HM 3 rfl rfl rfl (v := vI ((linR y).getD k 0)) (Yl.load1 rfl rfl (by kernel_rfl) (fun _ h => h.rowOne (i := 0) rfl (k := k) (map_at (F := I64v) (k := k) (x := ((linR y).getD k 0)) ((getD_at 0 (k := k) (by first | omega | (simp; omega))))))) ?_; clear HF; intro a HF
  refine fp HF 1 4 [(24, .bool ((((linR y).getD k 0) : Int) == (1 : Int)))] ?_; clear HF; intro a HF
  refine from_done rfl ?_
  rcases Bool.eq_false_or_eq_true ((((linR y).getD k 0) : Int) == (1 : Int)) with hb24 | hb24
  ·have HF := HF.on 24 hb24
   have hd24 := eq_of_beq hb24
   have hrs := remStep (linR y) hk31
   refine cond_true HF rfl (from_start ?_)
   refine fp HF 3 0 [(27, vI (IntKind.i64.wrap (31 - (k : Int)))), (26, vI k), (25, vW (remUp (linR y) k))] ?_; clear HF; intro a HF
   replace HF := HF.as (t := 27) (u := vI (31 - k : Nat)) rfl (i64_nat (by omega) (by omega))
   refine fy HF HM 3 rfl rfl rfl (v := vW (1 * 2 ^ (31 - k) : Nat)) (Yl.shlN (m := 1) (n := (31 - k)) rfl rfl rfl (by show _ ≤ 32; omega) (pow31 k)) ?_; clear HF; intro a HF
   refine fp HF 1 4 [(29, vW (IntKind.u32.wrap ((remUp (linR y) k : Int) + ((1 * 2 ^ (31 - k) : Nat) : Int))))] ?_; clear HF; intro a HF
   replace HF := HF.as (t := 29) (u := vW (remUp (linR y) (k + 1))) rfl (u32_nat (by rw [remUp_succ, if_pos (by omega)]; omega) (by rw [remUp_succ, if_pos (by omega)]; omega))
   refine fp HF 1 5 [(5, vW (remUp (linR y) (k + 1)))] ?_; clear HF; intro a HF
   refine from_done rfl ?_
   replace HF := HF.to [(5, vW (remUp (linR y) (k + 1))), (24, .bool true), (17, .bool true), (6, vI k), (4, vS gX ((linR y).length) cX), (2, vW 0)]
   refine from_start ?_
   refine fp HF 2 0 [(19, vI (IntKind.i64.wrap ((k : Int) + 1))), (18, vI k)] ?_; clear HF; intro a HF
   replace HF := HF.as (t := 19) (u := vI (k + 1 : Nat)) rfl (i64_nat (by omega) (by omega))
   refine fp HF 1 2 [(6, vI (k + 1 : Nat))] ?_; clear HF; intro a HF
   refine from_done rfl ?_
   exact ⟨_, (by omega), k + 1, by omega, rfl, HF.sub (by kernel_rfl), HM.picks [0] (by decide) rfl⟩
  ·have HF := HF.on 24 hb24
   have hd24 := ne_of_beq_false hb24
   replace HF := HF.as (t := 5) (u := .int .u32 (remUp (linR y) (k + 1) : Int)) rfl (by rw [remUp_succ, if_neg (by omega), Nat.add_zero])
   refine cond_false HF rfl (wp_skip (from_start ?_))
   refine fp HF 2 0 [(19, vI (IntKind.i64.wrap ((k : Int) + 1))), (18, vI k)] ?_; clear HF; intro a HF
   replace HF := HF.as (t := 19) (u := vI (k + 1 : Nat)) rfl (i64_nat (by omega) (by omega))
   refine fp HF 1 2 [(6, vI (k + 1 : Nat))] ?_; clear HF; intro a HF
   refine from_done rfl ?_
   exact ⟨_, (by omega), k + 1, by omega, rfl, HF.sub (by kernel_rfl), HM.picks [0] (by decide) rfl⟩
 ·have HF := HF.on 17 hb17
  have hd17 := of_decide_eq_false hb17
  refine cond_false HF rfl (wp_exit (wp_seq (from_start ?_)))
  refine fp HF 2 0 [(2, vW (remUp (linR y) k)), (30, vW (remUp (linR y) k))] ?_; clear HF; intro a HF
  refine from_done rfl ?_
  refine wp_ret ?_
  exact ret1 rfl HF (.tmp HF rfl) (⟨by rw [show k = (linR y).length by omega, remUp_all, linR_is, refLin_eq y (by omega)], HM.below⟩)
theorem linear_any (A : Option Addr) (c y : Nat) (hy : y < 256) (w : World) (hr : Rd w w.heap.size 1 A 1 ([y].map B8)) : Calls Tryd.prog 89 #[.slice A 1 c] w (Is w (.int .u32 (crcT y : Int))) := by
  by_cases h : y = 0
  · subst h; exact linear_zero A c w hr
  · exact linear_pos A c y hy h w hr
set_option maxRecDepth 100000 in
set_option maxHeartbeats 4000000 in
theorem upd04_any (c : Nat) (hc : c < 4294967296) (A : Option Addr) (n cp : Nat) (l : List Nat) (w : World) (hr : Rd w w.heap.size 1 A n (l.map B8)) (hln : l.length = n) (hn : n ≤ 1000000000) (hl : ∀ b ∈ l, b < 256) :
    Calls Tryd.prog 75 #[.int .u32 (c : Int), .slice A n cp] w (Is w (.int .u32 ((4294967295 - crcRun (4294967295 - c) l : Nat) : Int))) := by
 refine calls_enter (vs := [vW c, .slice A n cp]) Tryd.func75 rfl rfl (by kernel_rfl) (σ0 := [(0, vW c), (1, .slice A n cp)]) rfl ?_
 intro a HF
 have HM := Mem.start w
 refine wp_seq (from_start ?_)
 refine fp HF 1 0 [(4, vW 0)] ?_; clear HF; intro a HF
 refine from_done rfl ?_
 refine wp_seq (from_start ?_)
 refine fp HF 2 0 [(7, vW (IntKind.u32.wrap (4294967295 - (c : Int)))), (6, vW c)] ?_; clear HF; intro a HF
 replace HF := HF.as (t := 7) (u := vW (4294967295 - c : Nat)) rfl (u32_nat (by omega) (by omega))
 refine fp HF 1 2 [(0, vW (4294967295 - c : Nat))] ?_; clear HF; intro a HF
 refine from_done rfl ?_
 refine wp_seq (wp_seq (from_start ?_))
 refine fp HF 1 0 [(5, vI 0)] ?_; clear HF; intro a HF
 refine from_done rfl ?_
 refine wp_block ?_
 refine loop_nat (fun mS aS wS => ∃ (k : Nat), (k ≤ n) ∧ mS = n - k ∧ Fr aS 29 [] [(5, vI k), (0, vW (crcRun (4294967295 - c) (l.take k))), (4, vW 0), (1, .slice A n cp)] ∧ Mem w wS []) (m := n - 0) ⟨0, Nat.zero_le _, rfl, HF.sub (by kernel_rfl), HM.picks [] (by decide) rfl⟩ ?_
 clear HF HM; rintro mS a w_ ⟨k, hk, rfl, HF, HM⟩
 have hcr := crcRun_lt (l.take k) (c := 4294967295 - c) (by omega) (take_lt hl k)
 refine wp_seq (wp_seq (from_start ?_))
 refine fp HF 2 0 [(9, .slice A n cp), (8, vI k)] ?_; clear HF; intro a HF
 refine fy HF HM 2 rfl rfl rfl (Yl.len rfl rfl (by kernel_rfl)) ?_; clear HF; intro a HF
 refine fp HF 1 3 [(11, .bool (decide ((k : Int) < (n : Int))))] ?_; clear HF; intro a HF
 refine from_done rfl ?_
 rcases Bool.eq_false_or_eq_true (decide ((k : Int) < (n : Int))) with hb11 | hb11
 ·have HF := HF.on 11 hb11
  have hd11 := of_decide_eq_true hb11
  have hk11 : k < n := by omega
  have hxk := getD_lt hl (k := k) (by omega)
  have hy8 : (crcRun (4294967295 - c) (l.take k) % 256 ^^^ l.getD k 0) < 256 := Nat.xor_lt_two_pow (n := 8) (by omega) (by omega)
  refine cond_true HF rfl (wp_skip (wp_seq (wp_block (from_start ?_))))
  refine fp HF 2 0 [(15, vW (IntKind.u32.wrap (Int.tdiv (crcRun (4294967295 - c) (l.take k) : Int) 256))), (14, vW (crcRun (4294967295 - c) (l.take k)))] ?_; clear HF; intro a HF
  replace HF := HF.as (t := 15) (u := vW ((crcRun (4294967295 - c) (l.take k)) / 256 : Nat)) rfl (tdiv_nat .u32 256 (by show _ ≤ 4294967295; omega))
  refine fp HF 2 2 [(17, vW (Int.tmod (crcRun (4294967295 - c) (l.take k) : Int) 256)), (16, vW (crcRun (4294967295 - c) (l.take k)))] ?_; clear HF; intro a HF
  replace HF := HF.as (t := 17) (u := vW ((crcRun (4294967295 - c) (l.take k)) % 256 : Nat)) rfl (tmod_nat .u32 _ 256)
  refine fp HF 1 4 [(18, vB (IntKind.u8.wrap (((crcRun (4294967295 - c) (l.take k)) % 256 : Nat) : Int)))] ?_; clear HF; intro a HF
  replace HF := HF.as (t := 18) (u := vB (crcRun (4294967295 - c) (l.take k) % 256 : Nat)) rfl ((u8_mod (crcRun (4294967295 - c) (l.take k) % 256)).trans (by rw [Nat.mod_mod]))
  refine fp HF 2 5 [(20, vI k), (19, .slice A n cp)] ?_; clear HF; intro a HF
  obtain ⟨gA, oA, rfl, _⟩ := hr.some_at (Nat.lt_of_le_of_lt (Nat.zero_le _) (show k < n from by omega)) (by decide)
  refine fy HF HM 7 rfl rfl rfl (v := vP gA (oA + k * 1)) ((Yl.indexAddr (ad := ⟨gA, oA, none⟩) (y := k) (sz := 1) rfl rfl rfl (by omega) (by kernel_rfl)).as (by rw [Addr.add_mid])) ?_; clear HF; intro a HF
  have hx49 := getD_lt hl (k := k) (by first | omega | (simp; omega))
  refine fy HF HM 8 rfl rfl rfl (v := vB (l.getD k 0)) (Yl.load1 rfl rfl (by kernel_rfl) (fun _ h => (h.old hr).oneAt1 (k := k) (map_at (F := B8) (k := k) (x := (l.getD k 0)) ((getD_at 0 (k := k) (by first | omega | (simp; omega))))))) ?_; clear HF; intro a HF
  refine fp HF 1 9 [(23, vB (IntKind.u8.wrap (BitVec.ofInt (IntKind.u8).bits ((crcRun (4294967295 - c) (l.take k) % 256 : Nat) : Int) ^^^ BitVec.ofInt (IntKind.u8).bits ((l.getD k 0) : Int)).toNat))] ?_; clear HF; intro a HF
  replace HF := HF.as (t := 23) (u := vB ((crcRun (4294967295 - c) (l.take k) % 256) ^^^ (l.getD k 0) : Nat)) rfl (xor_u8 (m := crcRun (4294967295 - c) (l.take k) % 256) (n := (l.getD k 0)) (by omega) (by omega))
  refine from_op HF (i := 10) rfl rfl ?_
  refine e_slice HF HM (vs := [(0, vB ((crcRun (4294967295 - c) (l.take k) % 256) ^^^ (l.getD k 0) : Nat))]) (cs := #[vB ((crcRun (4294967295 - c) (l.take k) % 256) ^^^ (l.getD k 0) : Nat)]) rfl ei_u8 (by decide) rfl (by kernel_rfl) rfl (by decide) ?_
  clear HF HM; intro a w24 g24 HF HM
  refine from_op HF (i := 11) rfl rfl ?_
  refine e_call HF (vs := [vS g24 1 1]) rfl (by kernel_rfl) (by kernel_rfl) rfl (by decide) (linear_any _ _ (crcRun (4294967295 - c) (l.take k) % 256 ^^^ l.getD k 0) hy8 _ (HM.rdBlk (i := 0) (n := 1) (size := 1) rfl rfl)) ?_
  rintro _ w25 ⟨rfl, hbw⟩
  refine ⟨_, rfl, ?_⟩
  replace HM := HM.call hbw
  clear HF; intro a HF
  refine fp HF 1 12 [(26, vW (IntKind.u32.wrap (BitVec.ofInt (IntKind.u32).bits (((crcRun (4294967295 - c) (l.take k)) / 256 : Nat) : Int) ^^^ BitVec.ofInt (IntKind.u32).bits (crcT (crcRun (4294967295 - c) (l.take k) % 256 ^^^ l.getD k 0) : Int)).toNat))] ?_; clear HF; intro a HF
  replace HF := HF.as (t := 26) (u := vW (crcRun (4294967295 - c) (l.take (k + 1)))) rfl (by have h := xor_u32 (m := (crcRun (4294967295 - c) (l.take k)) / 256) (n := crcT (crcRun (4294967295 - c) (l.take k) % 256 ^^^ l.getD k 0)) (by omega) (crcT_lt (by omega)); rw [crcRun_take (by omega), byteStep_table]; exact h)
  refine fp HF 1 13 [(0, vW (crcRun (4294967295 - c) (l.take (k + 1))))] ?_; clear HF; intro a HF
  refine from_done rfl ?_
  replace HF := HF.to [(0, vW (crcRun (4294967295 - c) (l.take (k + 1)))), (11, .bool true), (5, vI k), (4, vW 0), (1, .slice (some ⟨gA, oA, none⟩) n cp)]
  replace HM := HM.picks (fs' := []) [] (by decide) rfl
  refine from_start ?_
  refine fp HF 2 0 [(13, vI (IntKind.i64.wrap ((k : Int) + 1))), (12, vI k)] ?_; clear HF; intro a HF
  replace HF := HF.as (t := 13) (u := vI (k + 1 : Nat)) rfl (i64_nat (by omega) (by omega))
  refine fp HF 1 2 [(5, vI (k + 1 : Nat))] ?_; clear HF; intro a HF
  refine from_done rfl ?_
  exact ⟨_, (by omega), k + 1, by omega, rfl, HF.sub (by kernel_rfl), HM.picks [] (by decide) rfl⟩
 ·have HF := HF.on 11 hb11
  have hd11 := of_decide_eq_false hb11
  refine cond_false HF rfl (wp_exit (wp_seq (from_start ?_)))
  refine fp HF 2 0 [(28, vW (IntKind.u32.wrap (4294967295 - (crcRun (4294967295 - c) (l.take k) : Int)))), (27, vW (crcRun (4294967295 - c) (l.take k)))] ?_; clear HF; intro a HF
  replace HF := HF.as (t := 28) (u := vW (4294967295 - (crcRun (4294967295 - c) (l.take k)) : Nat)) rfl (u32_nat (by omega) (by omega))
  refine fp HF 1 2 [(4, vW (4294967295 - (crcRun (4294967295 - c) (l.take k)) : Nat))] ?_; clear HF; intro a HF
  refine from_done rfl ?_
  refine wp_ret ?_
  exact ret1 rfl HF (.tmp HF rfl) (⟨by rw [List.take_of_length_le (by omega)], HM.below⟩)
set_option maxRecDepth 100000 in
set_option maxHeartbeats 4000000 in
theorem sum04_any (A : Option Addr) (n cp : Nat) (l : List Nat) (w : World) (hr : Rd w w.heap.size 1 A n (l.map B8)) (hln : l.length = n) (hn : n ≤ 1000000000) (hl : ∀ b ∈ l, b < 256) :
    Calls Tryd.prog 58 #[.slice A n cp] w (Is w (.int .u32 (crcSum l : Int))) := by
 refine calls_enter (vs := [.slice A n cp]) Tryd.func58 rfl rfl (by kernel_rfl) (σ0 := [(0, .slice A n cp)]) rfl ?_
 intro a HF
 have HM := Mem.start w
 refine wp_seq (from_start ?_)
 refine fp HF 1 0 [(2, vW 0)] ?_; clear HF; intro a HF
 refine from_done rfl ?_
 refine wp_seq (from_start ?_)
 refine fp HF 1 0 [(3, .slice A n cp)] ?_; clear HF; intro a HF
 refine from_op HF (i := 1) rfl rfl ?_
 refine e_call HF (vs := [vW 0, .slice A n cp]) rfl (by kernel_rfl) (by kernel_rfl) rfl (by decide) (upd04_any 0 (by decide) _ _ _ l _ (HM.old hr) hln hn hl) ?_
 rintro _ w4 ⟨rfl, hbw⟩
 refine ⟨_, rfl, ?_⟩
 replace HM := HM.call hbw
 clear HF; intro a HF
 refine fp HF 1 2 [(2, vW (crcSum l))] ?_; clear HF; intro a HF
 refine from_done rfl ?_
 refine wp_ret ?_
 exact ret1 rfl HF (.tmp HF rfl) (⟨rfl, HM.below⟩)
set_option maxRecDepth 100000 in
set_option maxHeartbeats 4000000 in
theorem seal04_any (A : Option Addr) (n cp : Nat) (l : List Nat) (w : World) (hr : Rd w w.heap.size 1 A n (l.map B8)) (hln : l.length = n) (hn : n ≤ 100000000) (hl : ∀ b ∈ l, b < 256) :
    Calls Tryd.prog 35 #[.slice A n cp] w (BytesOne w (sealL l)) := by
 refine calls_enter (vs := [.slice A n cp]) Tryd.func35 rfl rfl (by kernel_rfl) (σ0 := [(0, .slice A n cp)]) rfl ?_
 intro a HF
 have HM := Mem.start w
 refine wp_seq (from_start ?_)
 refine fp HF 1 0 [(2, .slice none 0 0)] ?_; clear HF; intro a HF
 refine from_done rfl ?_
 refine wp_seq (from_start ?_)
 refine fp HF 1 0 [(4, .slice A n cp)] ?_; clear HF; intro a HF
 refine from_op HF (i := 1) rfl rfl ?_
 refine e_call HF (vs := [.slice A n cp]) rfl (by kernel_rfl) (by kernel_rfl) rfl (by decide) (sum04_any _ _ _ l _ (HM.old hr) hln (by omega) hl) ?_
 rintro _ w5 ⟨rfl, hbw⟩
 refine ⟨_, rfl, ?_⟩
 replace HM := HM.call hbw
 clear HF; intro a HF
 refine fp HF 1 2 [(3, vW (crcSum l))] ?_; clear HF; intro a HF
 refine from_done rfl ?_
 have hcs := crcSum_lt l
 refine wp_seq (from_start ?_)
 refine from_op HF (i := 0) rfl rfl ?_
 refine e_slice0 HF HM rfl ei_u8 rfl (by decide) ?_
 clear HF HM; intro a w6 g6 HF HM
 refine fp HF 1 1 [(7, .slice A n cp)] ?_; clear HF; intro a HF
 refine from_op HF (i := 2) rfl rfl ?_
 refine e_append HF HM (i := 0) rfl ei_u8 rfl rfl rfl (news := (l.map B8)) (HM.old hr) (one_B8 _) (by omega) (by omega) rfl (by decide) ?_
 clear HF HM; intro a w8 A8 c8 HF HM hc8
 refine fp HF 2 3 [(10, vW (Int.tmod (crcSum l : Int) 256)), (9, vW (crcSum l))] ?_; clear HF; intro a HF
 replace HF := HF.as (t := 10) (u := vW ((crcSum l) % 256 : Nat)) rfl (tmod_nat .u32 _ 256)
 refine fp HF 1 5 [(11, vB (IntKind.u8.wrap (((crcSum l) % 256 : Nat) : Int)))] ?_; clear HF; intro a HF
 replace HF := HF.as (t := 11) (u := vB (crcSum l % 256 : Nat)) rfl ((u8_mod (crcSum l % 256)).trans (by rw [Nat.mod_mod]))
 refine fp HF 2 6 [(13, vW (IntKind.u32.wrap (Int.tdiv (crcSum l : Int) 256))), (12, vW (crcSum l))] ?_; clear HF; intro a HF
 replace HF := HF.as (t := 13) (u := vW ((crcSum l) / 256 : Nat)) rfl (tdiv_nat .u32 256 (by show _ ≤ 4294967295; omega))
 refine fp HF 1 8 [(14, vW (Int.tmod (((crcSum l) / 256 : Nat) : Int) 256))] ?_; clear HF; intro a HF
 replace HF := HF.as (t := 14) (u := vW (((crcSum l) / 256) % 256 : Nat)) rfl (tmod_nat .u32 _ 256)
 refine fp HF 1 9 [(15, vB (IntKind.u8.wrap ((((crcSum l) / 256) % 256 : Nat) : Int)))] ?_; clear HF; intro a HF
 replace HF := HF.as (t := 15) (u := vB (crcSum l / 256 % 256 : Nat)) rfl ((u8_mod (crcSum l / 256 % 256)).trans (by rw [Nat.mod_mod]))
 refine fp HF 2 10 [(17, vW (IntKind.u32.wrap (Int.tdiv (crcSum l : Int) 65536))), (16, vW (crcSum l))] ?_; clear HF; intro a HF
 replace HF := HF.as (t := 17) (u := vW ((crcSum l) / 65536 : Nat)) rfl (tdiv_nat .u32 65536 (by show _ ≤ 4294967295; omega))
 refine fp HF 1 12 [(18, vW (Int.tmod (((crcSum l) / 65536 : Nat) : Int) 256))] ?_; clear HF; intro a HF
 replace HF := HF.as (t := 18) (u := vW (((crcSum l) / 65536) % 256 : Nat)) rfl (tmod_nat .u32 _ 256)
 refine fp HF 1 13 [(19, vB (IntKind.u8.wrap ((((crcSum l) / 65536) % 256 : Nat) : Int)))] ?_; clear HF; intro a HF
 replace HF := HF.as (t := 19) (u := vB (crcSum l / 65536 % 256 : Nat)) rfl ((u8_mod (crcSum l / 65536 % 256)).trans (by rw [Nat.mod_mod]))
 refine fp HF 2 14 [(21, vW (IntKind.u32.wrap (Int.tdiv (crcSum l : Int) 16777216))), (20, vW (crcSum l))] ?_; clear HF; intro a HF
 replace HF := HF.as (t := 21) (u := vW ((crcSum l) / 16777216 : Nat)) rfl (tdiv_nat .u32 16777216 (by show _ ≤ 4294967295; omega))
 refine fp HF 1 16 [(22, vB (IntKind.u8.wrap (((crcSum l) / 16777216 : Nat) : Int)))] ?_; clear HF; intro a HF
 replace HF := HF.as (t := 22) (u := vB (((crcSum l) / 16777216) % 256 : Nat)) rfl (u8_mod ((crcSum l) / 16777216))
 refine from_op HF (i := 17) rfl rfl ?_
 refine e_slice HF HM (vs := [(0, vB (crcSum l % 256 : Nat)), (1, vB (crcSum l / 256 % 256 : Nat)), (2, vB (crcSum l / 65536 % 256 : Nat)), (3, vB (((crcSum l) / 16777216) % 256 : Nat))]) (cs := #[vB (crcSum l % 256 : Nat), vB (crcSum l / 256 % 256 : Nat), vB (crcSum l / 65536 % 256 : Nat), vB (((crcSum l) / 16777216) % 256 : Nat)]) rfl ei_u8 (by decide) rfl (by kernel_rfl) rfl (by decide) ?_
 clear HF HM; intro a w23 g23 HF HM
 refine from_op HF (i := 18) rfl rfl ?_
 refine e_append HF HM (i := 1) rfl ei_u8 rfl rfl rfl (news := ((le4 (crcSum l)).map B8)) (HM.rdBlk (i := 0) (n := 4) (size := 1) rfl rfl) (one_B8 _) (by omega) (by omega) rfl (by decide) ?_
 clear HF HM; intro a w24 A24 c24 HF HM hc24
 refine fp HF 1 19 [(2, .slice A24 (0 + n + 4) c24)] ?_; clear HF; intro a HF
 refine from_done rfl ?_
 replace HF := HF.to [(2, .slice A24 (0 + n + 4) c24), (0, .slice A n cp)]
 replace HM := HM.picks (fs' := [.row (.slice A24 (0 + n + 4) c24) (0 + n + 4) (([] ++ (l.map B8)) ++ ((le4 (crcSum l)).map B8)) 5 1]) [1] (by decide) rfl
 have hnA24 : 0 + n + 4 = (sealL l).length := by rw [seal_len]; omega
 replace HM := HM.reRow (i := 0) (ys := (sealL l).map B8) rfl hnA24 (by simp [sealL])
 rw [hnA24] at hc24
 replace HF := HF.as (t := 2) (u := .slice A24 ((sealL l).length) c24) rfl (by rw [hnA24])
 refine wp_ret ?_
 exact ret1 rfl HF (.tmp HF rfl) (⟨⟨_, _, rfl, HM.own (i := 0) rfl, hc24⟩, HM.below⟩)
set_option maxRecDepth 100000 in
set_option maxHeartbeats 4000000 in
theorem sealed04_any (A : Option Addr) (n cp : Nat) (l : List Nat) (w : World) (hr : Rd w w.heap.size 1 A n (l.map B8)) (hc : n ≤ cp) (hln : l.length = n) (hn : n ≤ 100000000) (hl : ∀ b ∈ l, b < 256) :
    Calls Tryd.prog 28 #[.slice A n cp] w (Is w (.bool (sealedR l))) := by
 refine calls_enter (vs := [.slice A n cp]) Tryd.func28 rfl rfl (by kernel_rfl) (σ0 := [(0, .slice A n cp)]) rfl ?_
 intro a HF
 have HM := Mem.start w
 refine wp_seq (from_start ?_)
 refine fp HF 1 0 [(2, .bool false)] ?_; clear HF; intro a HF
 refine from_done rfl ?_
 refine wp_seq (wp_seq (from_start ?_))
 refine fp HF 1 0 [(3, .slice A n cp)] ?_; clear HF; intro a HF
 refine fy HF HM 1 rfl rfl rfl (Yl.len rfl rfl (by kernel_rfl)) ?_; clear HF; intro a HF
 refine fp HF 1 2 [(5, .bool (decide ((n : Int) < (4 : Int))))] ?_; clear HF; intro a HF
 refine from_done rfl ?_
 rcases Bool.eq_false_or_eq_true (decide ((n : Int) < (4 : Int))) with hb5 | hb5
 ·have HF := HF.on 5 hb5
  have hd5 := of_decide_eq_true hb5
  refine cond_true HF rfl (wp_seq (from_start ?_))
  refine fp HF 1 0 [(2, .bool false)] ?_; clear HF; intro a HF
  refine from_done rfl ?_
  refine wp_ret ?_
  exact ret1 rfl HF (.tmp HF rfl) (⟨by rw [sealed_short hln (by omega)], HM.below⟩)
 ·have HF := HF.on 5 hb5
  have hd5 := of_decide_eq_false hb5
  refine cond_false HF rfl (wp_skip (wp_seq ?_))
  refine any_start (by kernel_rfl) (fun wS => Mem w wS []) [] ?_
  replace HM := HM.drew
  have HS := HM.picks (fs' := []) [] (by decide) rfl
  refine ap HF (fun _ => HS) [0, 1, 7] #[true, true, false, false, false, false, false, true, false, false, false] [(13, .slice A n cp), (7, .slice A n cp), (6, .slice A n cp)] ?_; clear HF; intro a HF
  refine ay HF HS 2 rfl rfl rfl (Yl.len rfl rfl (by kernel_rfl)) ?_; clear HF; intro a HF
  refine any_pure HF (fun _ => HS) (i := 3) rfl rfl (d := 9) rfl (by decide) (by kernel_rfl) (fun _ _ _ h => h) (v := vI (IntKind.i64.wrap ((n : Int) - 4))) (fun _ => Yl.pure (by kernel_rfl)) ?_; clear HF; intro a HF
  replace HF := HF.as (t := 9) (u := vI (n - 4 : Nat)) rfl (i64_nat (by omega) (by omega))
  refine ay HF HS 4 rfl rfl rfl (v := .slice A (n - 4) cp) (Yl.sliceUpto ei_u8 (j := n - 4) rfl rfl rfl (by omega)) ?_; clear HF; intro a HF
  refine ay HF HS 8 rfl rfl rfl (v := .string (bstr l)) (Yl.str rfl rfl (fun _ h => h.old hr)) ?_; clear HF; intro a HF
  refine any_all [5] (by kernel_rfl) rfl ?_
  refine all_cons ?_ all_nil
  refine any_op HF (i := 5) rfl rfl ?_
  refine e_call HF (vs := [.slice A (n - 4) cp]) rfl (by kernel_rfl) (by kernel_rfl) rfl (by decide) (seal04_any _ (n - 4) _ (l.take (n - 4)) _ (HM.old (hr.toB8 (by omega))) (by rw [List.length_take]; omega) (by omega) (take_lt hl _)) ?_
  rintro _ w11 ⟨⟨A11, c11, rfl, ho, hc11⟩, hbw⟩
  refine ⟨_, rfl, ?_⟩
  replace HM := HM.callRow hbw ho
  clear HF; intro a HF
  refine keepS (HM.picks [] (by decide) rfl) (fun HS => ?_)
  refine any_all [6] (by kernel_rfl) rfl ?_
  refine all_cons ?_ all_nil
  refine any_op HF (i := 6) rfl rfl ?_
  refine Yl.wp (S := fun wS => Mem w wS _) (v := .string (bstr (sealL (l.take (n - 4))))) (Yl.str rfl rfl (fun _ h => h.rd (i := 0) rfl)) HF HM rfl (by decide) ?_; clear HF; intro a HF
  refine keepS HS (fun HS => ?_)
  refine ap HF (fun _ => HS) [9, 10] #[true, true, true, true, true, true, true, true, true, true, true] [(2, .bool (((bstr (sealL (l.take (n - 4))))).toList == ((bstr l)).toList)), (15, .bool (((bstr (sealL (l.take (n - 4))))).toList == ((bstr l)).toList))] ?_; clear HF; intro a HF
  refine any_done (by kernel_rfl) ?_
  replace HM := HM.picks (fs' := []) [] (by decide) rfl
  refine wp_ret ?_
  exact ret1 rfl HF (.tmp HF rfl) (⟨by rw [bstr_ne (seal_lt (take_lt hl _)) hl, sealed_ref hl hln], HM.below⟩)
theorem write01_is (x : Nat) (w : World) (hx : x < 18446744073709551616) : Calls Tryd.prog 49 #[.int .u64 (x : Int)] w (BytesOne w (vbytes x)) :=
  (write01_any x w hx).mono fun e w' ⟨v, h1, h2, h3⟩ => by
    obtain ⟨A, c, rfl, hc⟩ := own_slice h2
    exact ⟨⟨A, c, h1, h2, hc⟩, h3⟩
set_option maxRecDepth 100000 in
set_option maxHeartbeats 4000000 in
theorem wall01_any (A : Option Addr) (n c : Nat) (l : List Nat) (w : World) (hr : Rd w w.heap.size 1 A n (l.map U64)) (hln : l.length = n) (hl : ∀ x ∈ l, x < 18446744073709551616) (hn : n ≤ 1000000) :
    Calls Tryd.prog 50 #[.slice A n c] w (BytesOne w (l.flatMap vbytes)) := by
 refine calls_enter (vs := [.slice A n c]) Tryd.func50 rfl rfl (by kernel_rfl) (σ0 := [(0, .slice A n c)]) rfl ?_
 intro a HF
 have HM := Mem.start w
 refine wp_seq (from_start ?_)
 refine fp HF 1 0 [(2, .slice none 0 0)] ?_; clear HF; intro a HF
 refine from_done rfl ?_
 refine wp_seq (from_start ?_)
 refine fp HF 1 0 [(3, .slice none 0 0)] ?_; clear HF; intro a HF
 refine from_done rfl ?_
 replace HM := HM.nil 5 1
 refine wp_seq (wp_seq (from_start ?_))
 refine fp HF 1 0 [(4, vI 0)] ?_; clear HF; intro a HF
 refine from_done rfl ?_
 refine wp_block ?_
 refine loop_nat (fun mS aS wS => ∃ (k : Nat) (Ak : Option Addr) (ck : Nat), (k ≤ n) ∧ ((waUp l k).length ≤ ck) ∧ mS = n - k ∧ Fr aS 19 [] [(4, vI k), (3, .slice Ak ((waUp l k).length) ck), (2, .slice none 0 0), (0, .slice A n c)] ∧ Mem w wS [.row (.slice Ak ((waUp l k).length) ck) ((waUp l k).length) ((waUp l k).map B8) 5 1]) (m := n - 0) ⟨0, none, 0, Nat.zero_le _, Nat.le_refl _, rfl, HF.sub (by kernel_rfl), HM.picks [0] (by decide) rfl⟩ ?_
 clear HF HM; rintro mS a w_ ⟨k, Ak, ck, hk, hck, rfl, HF, HM⟩
 refine wp_seq (wp_seq (from_start ?_))
 refine fp HF 2 0 [(6, .slice A n c), (5, vI k)] ?_; clear HF; intro a HF
 refine fy HF HM 2 rfl rfl rfl (Yl.len rfl rfl (by kernel_rfl)) ?_; clear HF; intro a HF
 refine fp HF 1 3 [(8, .bool (decide ((k : Int) < (n : Int))))] ?_; clear HF; intro a HF
 refine from_done rfl ?_
 rcases Bool.eq_false_or_eq_true (decide ((k : Int) < (n : Int))) with hb8 | hb8
 ·have HF := HF.on 8 hb8
  have hd8 := of_decide_eq_true hb8
  have hk8 : k < n := by omega
  refine cond_true HF rfl (wp_skip (wp_seq (wp_block (from_start ?_))))
  refine fp HF 3 0 [(13, vI k), (12, .slice A n c), (11, .slice Ak ((waUp l k).length) ck)] ?_; clear HF; intro a HF
  obtain ⟨gA, oA, rfl, _⟩ := hr.some_at (Nat.lt_of_le_of_lt (Nat.zero_le _) (show k < n from by omega)) (by decide)
  refine fy HF HM 3 rfl rfl rfl (v := vP gA (oA + k * 1)) ((Yl.indexAddr (ad := ⟨gA, oA, none⟩) (y := k) (sz := 1) rfl rfl rfl (by omega) (by kernel_rfl)).as (by rw [Addr.add_mid])) ?_; clear HF; intro a HF
  have hx39 := getD_lt hl (k := k) (by first | omega | (simp; omega))
  refine fy HF HM 4 rfl rfl rfl (v := vQ (l.getD k 0)) (Yl.load1 rfl rfl (by kernel_rfl) (fun _ h => (h.old hr).oneAt1 (k := k) (map_at (F := U64) (k := k) (x := (l.getD k 0)) ((getD_at 0 (k := k) (by first | omega | (simp; omega))))))) ?_; clear HF; intro a HF
  refine from_op HF (i := 5) rfl rfl ?_
  refine e_call HF (vs := [vQ (l.getD k 0)]) rfl (by kernel_rfl) (by kernel_rfl) rfl (by decide) (write01_is (l.getD k 0) _ (hl _ (getD_mem 0 (by omega)))) ?_
  rintro _ w16 ⟨⟨A16, c16, rfl, ho, hc16⟩, hbw⟩
  refine ⟨_, rfl, ?_⟩
  replace HM := HM.callRow hbw ho
  clear HF; intro a HF
  refine from_op HF (i := 6) rfl rfl ?_
  refine e_append HF HM (i := 1) rfl ei_u8 rfl rfl rfl (news := ((vbytes (l.getD k 0)).map B8)) (HM.rd (i := 0) rfl) (one_B8 _) (by have := waUp_len l k; have := vbytes_length (l.getD k 0); omega) (by have := waUp_len l k; have := vbytes_length (l.getD k 0); omega) rfl (by decide) ?_
  clear HF HM; intro a w17 A17 c17 HF HM hc17
  refine fp HF 1 7 [(3, .slice A17 (((waUp l k).length) + (((vbytes (l.getD k 0))).length)) c17)] ?_; clear HF; intro a HF
  refine from_done rfl ?_
  replace HM := HM.picks (fs' := [.row (.slice A17 (((waUp l k).length) + (((vbytes (l.getD k 0))).length)) c17) (((waUp l k).length) + (((vbytes (l.getD k 0))).length)) (((waUp l k).map B8) ++ ((vbytes (l.getD k 0)).map B8)) 5 1]) [1] (by decide) rfl
  have hnA17 : ((waUp l k).length) + (((vbytes (l.getD k 0))).length) = (waUp l (k + 1)).length := by rw [waUp_succ (by omega)]; simp
  replace HM := HM.reRow (i := 0) (ys := (waUp l (k + 1)).map B8) rfl hnA17 (by rw [waUp_succ (by omega)]; simp)
  rw [hnA17] at hc17
  replace HF := HF.as (t := 3) (u := .slice A17 ((waUp l (k + 1)).length) c17) rfl (by rw [hnA17])
  replace HF := HF.as (t := 17) (u := .slice A17 ((waUp l (k + 1)).length) c17) rfl (by rw [hnA17])
  refine from_start ?_
  refine fp HF 2 0 [(10, vI (IntKind.i64.wrap ((k : Int) + 1))), (9, vI k)] ?_; clear HF; intro a HF
  replace HF := HF.as (t := 10) (u := vI (k + 1 : Nat)) rfl (i64_nat (by omega) (by omega))
  refine fp HF 1 2 [(4, vI (k + 1 : Nat))] ?_; clear HF; intro a HF
  refine from_done rfl ?_
  replace HF := HF.to [(4, vI (k + 1 : Nat)), (17, .slice A17 ((waUp l (k + 1)).length) c17), (3, .slice A17 ((waUp l (k + 1)).length) c17), (8, .bool true), (2, .slice none 0 0), (0, .slice (some ⟨gA, oA, none⟩) n c)]
  exact ⟨_, (by omega), k + 1, A17, c17, by omega, hc17, rfl, HF.sub (by kernel_rfl), HM.picks [0] (by decide) rfl⟩
 ·have HF := HF.on 8 hb8
  have hd8 := of_decide_eq_false hb8
  have hkn : k = n := by omega
  have hwa : waUp l k = l.flatMap vbytes := by unfold waUp; rw [List.take_of_length_le (by omega)]
  refine cond_false HF rfl (wp_exit (wp_seq (from_start ?_)))
  refine fp HF 2 0 [(2, .slice Ak ((waUp l k).length) ck), (18, .slice Ak ((waUp l k).length) ck)] ?_; clear HF; intro a HF
  refine from_done rfl ?_
  refine wp_ret ?_
  exact ret1 rfl HF (.tmp HF rfl) (bytesOne_row (HM.own (i := 0) rfl) hck (by rw [hwa]) hwa HM.below)
end Go.Proofs.YtnakabnmjnfpcaaDoor

namespace Go.Proofs.YtnakabnmjnfpcaaDoor
open Go.RowKit
/-- So many values are used up when k fields have been looked at. -/
def usedUp (e : Ev) (vs : List Nat) (k : Nat) : Ev := e.base.rfill ((upTo e.kind k).zip vs)
theorem rput_ok {e : Ev} (h : e.Ok) (i x : Nat) (hx : x < 18446744073709551616) : (e.rput i x).Ok := by
  have hv : I64 (Ev.rval x) := by unfold Ev.rval I64; split <;> omega
  unfold Ev.rput Ev.putV
  split
  · exact { h with task := hv }
  · exact { h with group := hv }
  · exact ⟨h.seq, h.time, h.cpu, h.kind, h.task, h.group, hv, h.weight, h.ticks, h.mask, h.got⟩
  · exact { h with weight := hv }
  · exact { h with ticks := hv }
  · exact { h with mask := hx }
  · exact { h with got := hv }
theorem rfill_ok : ∀ (l : List (Nat × Nat)) (e : Ev), e.Ok → (∀ p ∈ l, p.2 < 18446744073709551616) → (e.rfill l).Ok
  | [], _, h, _ => h
  | p :: l, e, h, hl => rfill_ok l (e.rput p.1 p.2) (rput_ok h p.1 p.2 (hl p (by simp))) (fun q hq => hl q (by simp [hq]))
theorem rfill_snoc (e : Ev) (l : List (Nat × Nat)) (p : Nat × Nat) : e.rfill (l ++ [p]) = (e.rfill l).rput p.1 p.2 := by unfold Ev.rfill; rw [List.foldl_append]; rfl
theorem upTo_pre (kd k : Nat) : ∃ r, usesL kd = upTo kd k ++ r ∨ 7 ≤ k := by
  by_cases h : 7 ≤ k
  · exact ⟨[], .inr h⟩
  · refine ⟨((List.range 7).drop k).filter fun i => (usesL kd).contains i, .inl ?_⟩
    have h1 : List.range 7 = List.range k ++ (List.range 7).drop k := by
      rw [← List.take_append_drop k (List.range 7)]
      congr 1
      · rw [List.take_range]; congr 1; omega
      · rw [List.take_append_drop]
    conv => lhs; rw [← filter_usesL kd, h1, List.filter_append]
    rfl
theorem upTo_len_le (kd k : Nat) (hk : k ≤ 7) : (upTo kd k).length ≤ (usesL kd).length := by
  obtain ⟨r, h | h⟩ := upTo_pre kd k
  · rw [h, List.length_append]; omega
  · rw [show k = 7 by omega, upTo_7]; omega
theorem zip_snoc {l : List Nat} {a n : Nat} {vs : List Nat} (hl : l.length = n) (hn : n < vs.length) : (l ++ [a]).zip vs = l.zip vs ++ [(a, vs[n])] := by
  have h1 : vs = vs.take n ++ vs.drop n := (List.take_append_drop n vs).symm
  have h2 : vs.drop n = vs[n] :: vs.drop (n + 1) := List.drop_eq_getElem_cons hn
  have h3 : (vs.take n).length = n := by rw [List.length_take]; omega
  have h4 : l.zip vs = l.zip (vs.take n) := by
    conv => lhs; rw [h1, ← List.append_nil l]
    rw [List.zip_append (by omega)]; simp
  rw [h4]
  conv => lhs; rw [h1]
  rw [List.zip_append (by omega), h2]
  rfl
theorem usedUp_seven (e : Ev) (vs : List Nat) : usedUp e vs 7 = e.rmade vs := by unfold usedUp Ev.rmade; rw [upTo_7]
theorem usedUp_yes {e : Ev} {vs : List Nat} {k x : Nat} (h : (usesL e.kind).contains k = true) (hx : vs[(upTo e.kind k).length]? = some x) : (usedUp e vs k).rput k x = usedUp e vs (k + 1) := by
  obtain ⟨hl, he⟩ := List.getElem?_eq_some_iff.1 hx
  unfold usedUp
  rw [upTo_yes h, zip_snoc rfl hl, rfill_snoc, he]
theorem usedUp_no {e : Ev} {vs : List Nat} {k : Nat} (h : (usesL e.kind).contains k = false) : usedUp e vs (k + 1) = usedUp e vs k := by unfold usedUp; rw [upTo_no h]
theorem upTo_grow {kd k : Nat} (h : (usesL kd).contains k = true) : (upTo kd (k + 1)).length = (upTo kd k).length + 1 := by rw [upTo_yes h, List.length_append]; rfl
theorem upTo_room {kd k : Nat} (h : (usesL kd).contains k = true) (hk : k < 7) : (upTo kd k).length < (usesL kd).length := by
  have h1 := upTo_len_le kd (k + 1) (by omega)
  rw [upTo_grow h] at h1
  omega
theorem usedUp_ok {e : Ev} (he : e.Ok) {vs : List Nat} (hv : ∀ x ∈ vs, x < 18446744073709551616) (k : Nat) : (usedUp e vs k).Ok := by
  have z : I64 0 := ⟨by decide, by decide⟩
  have zm : (0 : Nat) < 18446744073709551616 := by decide
  refine rfill_ok _ _ ?_ (fun p hp => hv _ (List.of_mem_zip hp).2)
  exact ⟨he.seq, he.time, he.cpu, he.kind, z, z, z, z, z, zm, z⟩
def Ev.rErr (e : Ev) (vs : List Nat) : Nat := if e.kind = 0 ∨ 10 < e.kind then 60 else if vs.length ≠ (usesL e.kind).length then 2 else if (e.rmade vs).check ≠ 0 then 61 else 0
def Ev.rEv (e : Ev) (vs : List Nat) : Ev := if e.rErr vs = 0 then e.rmade vs else Ev.zero
theorem rErr_eq (e : Ev) (vs : List Nat) (hv : ∀ x ∈ vs, x < 18446744073709551616) : e.rErr vs = e.withErr vs ∧ e.rEv vs = e.withEv vs := by
  have h : e.rErr vs = e.withErr vs ∧ (e.rErr vs = 0 → e.rmade vs = e.made vs) := by
    unfold Ev.rErr Ev.withErr
    split
    · exact ⟨rfl, fun h => by omega⟩
    · split
      · exact ⟨rfl, fun h => by omega⟩
      · rename_i h1 h2
        rcases rmade_made e vs (by omega) hv with h | ⟨h3, h4⟩
        · rw [h]; exact ⟨rfl, fun _ => rfl⟩
        · rw [if_pos h3, if_pos h4]; exact ⟨rfl, fun h => by omega⟩
  refine ⟨h.1, ?_⟩
  unfold Ev.rEv Ev.withEv
  rw [← h.1]
  split
  · exact h.2 ‹_›
  · rfl
theorem has06_is (k i : Nat) (hi : i < 7) (hk : k < 256) (w : World) : Calls Tryd.prog 90 #[.int .u8 (k : Int), .int .i64 (i : Int)] w (BoolPost w ((usesL k).contains i)) :=
  (has06_any k i hi hk w).mono fun _ _ h => ⟨h.1, by rw [h.2]; exact Below.refl _ _⟩
end Go.Proofs.YtnakabnmjnfpcaaDoor

set_option linter.all false
namespace Go.Proofs.YtnakabnmjnfpcaaDoor
open Go.RowKit
set_option maxRecDepth 100000 in
set_option maxHeartbeats 4000000 in
theorem rwith_walk (e : Ev) (he : e.Ok) (A : Option Addr) (n c : Nat) (vs : List Nat) (w : World) (hr : Rd w w.heap.size 1 A n (vs.map U64)) (hvs : ∀ x ∈ vs, x < 18446744073709551616) (hn : vs.length = n) :
    Calls Tryd.prog 84 #[.agg e.cells, .slice A n c] w (WithPost w (e.rEv vs) (e.rErr vs)) := by
 refine calls_enter (vs := [.agg e.cells, .slice A n c]) Tryd.func84 rfl rfl (by kernel_rfl) (σ0 := [(0, .agg e.cells), (1, .slice A n c)]) rfl ?_
 intro a HF
 have HM := Mem.start w
 refine wp_seq (from_start ?_)
 refine from_op HF (i := 0) rfl rfl ?_
 refine e_box HF HM (cs := e.cells) rfl rfl rfl rfl (by decide) ?_
 clear HF HM; intro a w2 g2 HF HM
 refine from_op HF (i := 1) rfl rfl ?_
 refine e_alloc HF HM (cs := #[vI 0, vI 0, vB 0, vB 0, vI 0, vI 0, vI 0, vI 0, vI 0, vQ 0, vI 0]) rfl (by kernel_rfl) rfl (by decide) ?_
 clear HF HM; intro a w4 g4 HF HM
 refine fp HF 1 2 [(5, vI 0)] ?_; clear HF; intro a HF
 refine from_done rfl ?_
 refine wp_seq (wp_seq (from_start ?_))
 refine fp HF 1 0 [(9, vP g2 3)] ?_; clear HF; intro a HF
 refine fy HF HM 1 rfl rfl rfl (v := vB e.kind) (Yl.load1 rfl rfl (by kernel_rfl) (fun _ h => h.cell (i := 1) rfl (rfl))) ?_; clear HF; intro a HF
 refine from_op HF (i := 2) rfl rfl ?_
 refine e_call HF (vs := [vB e.kind]) rfl (by kernel_rfl) (by kernel_rfl) rfl (by decide) (name06_any e.kind he.kind _) ?_
 rintro _ w11 ⟨⟨s, rfl, hs⟩, hbw⟩
 refine ⟨_, rfl, ?_⟩
 replace HM := HM.call hbw
 clear HF; intro a HF
 refine fp HF 1 3 [(12, .bool ((s).toList == ((ByteArray.mk #[])).toList))] ?_; clear HF; intro a HF
 replace HF := HF.as (t := 12) (u := .bool (!decide (1 ≤ e.kind ∧ e.kind ≤ 10))) rfl (by rw [str_empty hs])
 refine from_done rfl ?_
 rcases Bool.eq_false_or_eq_true (!decide (1 ≤ e.kind ∧ e.kind ≤ 10)) with hb12 | hb12
 ·have HF := HF.on 12 hb12
  have hbad : e.kind = 0 ∨ 10 < e.kind := by simp only [Bool.not_eq_true', decide_eq_false_iff_not] at hb12; omega
  refine cond_true HF rfl (wp_seq (from_start ?_))
  refine fy HF HM 0 rfl rfl rfl (v := .agg Ev.zero.cells) ((Yl.build (vs := []) rfl (by kernel_rfl) (by kernel_rfl))) ?_; clear HF; intro a HF
  refine from_op HF (i := 1) rfl rfl ?_
  refine e_storeAll HF HM (i := 0) (cs := #[vI 0, vI 0, vB 0, vB 0, vI 0, vI 0, vI 0, vI 0, vI 0, vQ 0, vI 0]) (ds := Ev.zero.cells) rfl rfl rfl rfl ⟨(by kernel_rfl), (by kernel_rfl)⟩ rfl rfl (ev_one Ev.zero) rfl ?_
  clear HM; intro w2_1 HM
  refine fp HF 1 2 [(5, vI 60)] ?_; clear HF; intro a HF
  refine from_done rfl ?_
  refine wp_ret ?_
  exact ret2 rfl HF (.cellS (i := 0) HF HM rfl rfl ⟨(by kernel_rfl), (by kernel_rfl)⟩ rfl) (.tmp HF rfl) (⟨by rw [Ev.rEv, Ev.rErr, if_pos hbad]; rfl, HM.below⟩)
 ·have HF := HF.on 12 hb12
  have hgood : ¬ (e.kind = 0 ∨ 10 < e.kind) := by simp only [Bool.not_eq_false', decide_eq_true_eq] at hb12; omega
  refine cond_false HF rfl (wp_skip (wp_seq (wp_seq (from_start ?_))))
  refine fp HF 1 0 [(14, .slice A n c)] ?_; clear HF; intro a HF
  refine fy HF HM 1 rfl rfl rfl (Yl.len rfl rfl (by kernel_rfl)) ?_; clear HF; intro a HF
  refine fp HF 1 2 [(16, vP g2 3)] ?_; clear HF; intro a HF
  refine fy HF HM 3 rfl rfl rfl (v := vB e.kind) (Yl.load1 rfl rfl (by kernel_rfl) (fun _ h => h.cell (i := 1) rfl (rfl))) ?_; clear HF; intro a HF
  refine from_op HF (i := 4) rfl rfl ?_
  refine e_call HF (vs := [vB e.kind]) rfl (by kernel_rfl) (by kernel_rfl) rfl (by decide) (fields06_any e.kind he.kind _) ?_
  rintro _ w18 ⟨⟨v, xs18, rfl, ho⟩, hbw⟩
  obtain ⟨A18, c18, rfl, hc18⟩ := own_slice ho
  refine ⟨_, rfl, ?_⟩
  replace HM := HM.callRow hbw ho
  clear HF; intro a HF
  refine fy HF HM 5 rfl rfl rfl (Yl.len rfl rfl (by kernel_rfl)) ?_; clear HF; intro a HF
  refine fp HF 1 6 [(20, .bool ((n : Int) != (((usesL e.kind).length : Nat) : Int)))] ?_; clear HF; intro a HF
  refine from_done rfl ?_
  replace HM := HM.picks (fs' := [.blk g4 #[vI 0, vI 0, vB 0, vB 0, vI 0, vI 0, vI 0, vI 0, vI 0, vQ 0, vI 0] 65, .blk g2 e.cells 65]) [1, 2] (by decide) rfl
  rcases Bool.eq_false_or_eq_true ((n : Int) != (((usesL e.kind).length : Nat) : Int)) with hb20 | hb20
  ·have HF := HF.on 20 hb20
   have hlb : vs.length ≠ (usesL e.kind).length := by rw [bne_iff_ne] at hb20; omega
   refine cond_true HF rfl (wp_seq (from_start ?_))
   refine fy HF HM 0 rfl rfl rfl (v := .agg Ev.zero.cells) ((Yl.build (vs := []) rfl (by kernel_rfl) (by kernel_rfl))) ?_; clear HF; intro a HF
   refine from_op HF (i := 1) rfl rfl ?_
   refine e_storeAll HF HM (i := 0) (cs := #[vI 0, vI 0, vB 0, vB 0, vI 0, vI 0, vI 0, vI 0, vI 0, vQ 0, vI 0]) (ds := Ev.zero.cells) rfl rfl rfl rfl ⟨(by kernel_rfl), (by kernel_rfl)⟩ rfl rfl (ev_one Ev.zero) rfl ?_
   clear HM; intro w4_1 HM
   refine fp HF 1 2 [(5, vI 2)] ?_; clear HF; intro a HF
   refine from_done rfl ?_
   refine wp_ret ?_
   exact ret2 rfl HF (.cellS (i := 0) HF HM rfl rfl ⟨(by kernel_rfl), (by kernel_rfl)⟩ rfl) (.tmp HF rfl) (⟨by rw [Ev.rEv, Ev.rErr, if_neg hgood, if_pos hlb]; rfl, HM.below⟩)
  ·have HF := HF.on 20 hb20
   have hlg : n = (usesL e.kind).length := by rw [bne_eq_false_iff_eq] at hb20; omega
   have hlg2 : ¬ vs.length ≠ (usesL e.kind).length := by omega
   refine cond_false HF rfl (wp_skip (wp_seq (from_start ?_)))
   refine fp HF 1 0 [(22, vP g2 0)] ?_; clear HF; intro a HF
   refine fy HF HM 1 rfl rfl rfl (v := vI e.seq) (Yl.load1 rfl rfl (by kernel_rfl) (fun _ h => h.cell (i := 1) rfl (rfl))) ?_; clear HF; intro a HF
   refine fp HF 1 2 [(24, vP g2 1)] ?_; clear HF; intro a HF
   refine fy HF HM 3 rfl rfl rfl (v := vI e.time) (Yl.load1 rfl rfl (by kernel_rfl) (fun _ h => h.cell (i := 1) rfl (rfl))) ?_; clear HF; intro a HF
   refine fp HF 1 4 [(26, vP g2 2)] ?_; clear HF; intro a HF
   refine fy HF HM 5 rfl rfl rfl (v := vB e.cpu) (Yl.load1 rfl rfl (by kernel_rfl) (fun _ h => h.cell (i := 1) rfl (rfl))) ?_; clear HF; intro a HF
   refine fp HF 1 6 [(28, vP g2 3)] ?_; clear HF; intro a HF
   refine fy HF HM 7 rfl rfl rfl (v := vB e.kind) (Yl.load1 rfl rfl (by kernel_rfl) (fun _ h => h.cell (i := 1) rfl (rfl))) ?_; clear HF; intro a HF
   refine fy HF HM 8 rfl rfl rfl (v := .agg e.base.cells) ((Yl.build (vs := [(0, vI e.seq), (1, vI e.time), (2, vB e.cpu), (3, vB e.kind)]) rfl (by kernel_rfl) (by kernel_rfl))) ?_; clear HF; intro a HF
   refine from_op HF (i := 9) rfl rfl ?_
   refine e_alloc HF HM (cs := #[vI 0, vI 0, vB 0, vB 0, vI 0, vI 0, vI 0, vI 0, vI 0, vQ 0, vI 0]) rfl (by kernel_rfl) rfl (by decide) ?_
   clear HF HM; intro a w6 g6 HF HM
   refine from_op HF (i := 10) rfl rfl ?_
   refine e_storeAll HF HM (i := 0) (cs := #[vI 0, vI 0, vB 0, vB 0, vI 0, vI 0, vI 0, vI 0, vI 0, vQ 0, vI 0]) (ds := e.base.cells) rfl rfl rfl rfl ⟨(by kernel_rfl), (by kernel_rfl)⟩ rfl rfl (ev_one e.base) rfl ?_
   clear HM; intro w5_10 HM
   refine from_done rfl ?_
   replace HF := HF.to [(6, vP g6 0), (20, .bool false), (12, .bool false), (5, vI 0), (4, vP g4 0), (2, vP g2 0), (1, .slice A n c)]
   refine wp_seq (from_start ?_)
   refine fp HF 1 0 [(7, vI 0)] ?_; clear HF; intro a HF
   refine from_done rfl ?_
   refine wp_seq (wp_seq (from_start ?_))
   refine fp HF 1 0 [(8, vI 0)] ?_; clear HF; intro a HF
   refine from_done rfl ?_
   refine wp_block ?_
   refine loop_nat (fun mS aS wS => ∃ (k : Nat), (k ≤ 7) ∧ mS = 7 - k ∧ Fr aS 53 [] [(8, vI k), (7, vI ((upTo e.kind k).length : Nat)), (6, vP g6 0), (20, .bool false), (12, .bool false), (5, vI 0), (4, vP g4 0), (2, vP g2 0), (1, .slice A n c)] ∧ Mem w wS [.blk g6 ((usedUp e vs k).cells) 65, .blk g4 #[vI 0, vI 0, vB 0, vB 0, vI 0, vI 0, vI 0, vI 0, vI 0, vQ 0, vI 0] 65, .blk g2 e.cells 65]) (m := 7 - 0) ⟨0, by omega, rfl, HF.sub (by kernel_rfl), HM.picks [0, 1, 2] (by decide) rfl⟩ ?_
   clear HF HM; rintro mS a w_ ⟨k, hk, rfl, HF, HM⟩
   refine wp_seq (wp_seq (from_start ?_))
   refine fp HF 2 0 [(32, .bool (decide ((k : Int) < (7 : Int)))), (31, vI k)] ?_; clear HF; intro a HF
   refine from_done rfl ?_
   rcases Bool.eq_false_or_eq_true (decide ((k : Int) < (7 : Int))) with hb32 | hb32
   ·have HF := HF.on 32 hb32
    have hk7 : k < 7 := by have := of_decide_eq_true hb32; omega
    refine cond_true HF rfl (wp_skip (wp_seq (wp_block (wp_seq (from_start ?_)))))
    refine fp HF 1 0 [(35, vP g2 3)] ?_; clear HF; intro a HF
    refine fy HF HM 1 rfl rfl rfl (v := vB e.kind) (Yl.load1 rfl rfl (by kernel_rfl) (fun _ h => h.cell (i := 2) rfl (rfl))) ?_; clear HF; intro a HF
    refine fp HF 1 2 [(37, vI k)] ?_; clear HF; intro a HF
    refine from_op HF (i := 3) rfl rfl ?_
    refine e_call HF (vs := [vB e.kind, vI k]) rfl (by kernel_rfl) (by kernel_rfl) rfl (by decide) (has06_is e.kind k hk7 he.kind _) ?_
    rintro _ w38 ⟨rfl, hbw⟩
    refine ⟨_, rfl, ?_⟩
    replace HM := HM.call hbw
    clear HF; intro a HF
    refine from_done rfl ?_
    rcases Bool.eq_false_or_eq_true ((usesL e.kind).contains k) with hb38 | hb38
    ·have HF := HF.on 38 hb38
     have hroom : (upTo e.kind k).length < n := by have := upTo_room hb38 hk7; omega
     obtain ⟨x, hx⟩ : ∃ x, vs[(upTo e.kind k).length]? = some x := ⟨_, List.getElem?_eq_getElem (by omega)⟩
     refine cond_true HF rfl (wp_seq ?_)
     refine any_start (by kernel_rfl) (fun wS => Mem w wS [.blk g6 ((usedUp e vs k).cells) 65, .blk g4 #[vI 0, vI 0, vB 0, vB 0, vI 0, vI 0, vI 0, vI 0, vI 0, vQ 0, vI 0] 65, .blk g2 e.cells 65]) [7] ?_
     replace HM := HM.drew
     have HS := HM.picks (fs' := [.blk g6 ((usedUp e vs k).cells) 65, .blk g4 #[vI 0, vI 0, vB 0, vB 0, vI 0, vI 0, vI 0, vI 0, vI 0, vQ 0, vI 0] 65, .blk g2 e.cells 65]) [0, 1, 2] (by decide) rfl
     refine ap HF (fun _ => HS) [1, 2, 3] #[false, true, true, true, false, false, false, false] [(42, vI ((upTo e.kind k).length : Nat)), (41, .slice A n c), (40, vI k)] ?_; clear HF; intro a HF
     refine ay HF HS 0 rfl rfl rfl (v := .agg ((usedUp e vs k).cells)) (Yl.loadS rfl rfl ⟨(by kernel_rfl), (by kernel_rfl)⟩ rfl (fun _ h => range_of_block (h.blk (i := 0) rfl))) ?_; clear HF; intro a HF
     obtain ⟨gA, oA, rfl, _⟩ := hr.some_at (Nat.lt_of_le_of_lt (Nat.zero_le _) (show (upTo e.kind k).length < n from hroom)) (by decide)
     refine ay HF HS 4 rfl rfl rfl (v := vP gA (oA + ((upTo e.kind k).length) * 1)) ((Yl.indexAddr (ad := ⟨gA, oA, none⟩) (y := (upTo e.kind k).length) (sz := 1) rfl rfl rfl (hroom) (by kernel_rfl)).as (by rw [Addr.add_mid])) ?_; clear HF; intro a HF
     refine ay HF HS 5 rfl rfl rfl (v := vQ x) (Yl.load1 rfl rfl (by kernel_rfl) (fun _ h => (h.old hr).oneAt1 (k := ((upTo e.kind k).length)) (map_at (F := U64) (k := ((upTo e.kind k).length)) (x := x) (hx)))) ?_; clear HF; intro a HF
     refine any_all [6] (by kernel_rfl) rfl ?_
     refine all_cons ?_ all_nil
     refine any_op HF (i := 6) rfl rfl ?_
     refine e_call HF (vs := [.agg ((usedUp e vs k).cells), vI k, vQ x]) rfl (by kernel_rfl) (by kernel_rfl) rfl (by decide) (with06_any (usedUp e vs k) k x hk7 (hvs x (List.mem_of_getElem? hx)) _) ?_
     rintro _ w45 ⟨rfl, hbw⟩
     refine ⟨_, rfl, ?_⟩
     replace HM := HM.call hbw
     clear HF; intro a HF
     refine keepS (HM.picks [0, 1, 2] (by decide) rfl) (fun HS => ?_)
     refine any_all [7] (by kernel_rfl) rfl ?_
     refine all_cons ?_ all_nil
     refine any_op HF (i := 7) rfl rfl ?_
     refine e_storeAll HF HM (i := 0) (cs := (usedUp e vs k).cells) (ds := ((usedUp e vs k).rput k x).cells) rfl rfl rfl rfl ⟨(by kernel_rfl), (by kernel_rfl)⟩ rfl rfl (ev_one ((usedUp e vs k).rput k x)) rfl ?_
     clear HM; intro w11_7 HM
     refine noS (by kernel_rfl) ?_
     refine any_done (by kernel_rfl) ?_
     rw [usedUp_yes hb38 hx] at HM
     refine from_start ?_
     refine fp HF 2 0 [(47, vI (IntKind.i64.wrap ((((upTo e.kind k).length : Nat) : Int) + 1))), (46, vI ((upTo e.kind k).length : Nat))] ?_; clear HF; intro a HF
     replace HF := HF.as (t := 47) (u := vI ((upTo e.kind (k + 1)).length : Nat)) rfl (by rw [IntWalk.i64_in _ (by have := upTo_len e.kind k (by omega); omega), upTo_grow hb38]; simp)
     refine fp HF 1 2 [(7, vI ((upTo e.kind (k + 1)).length : Nat))] ?_; clear HF; intro a HF
     refine from_done rfl ?_
     replace HF := HF.to [(7, vI ((upTo e.kind (k + 1)).length : Nat)), (38, .bool true), (32, .bool true), (8, vI k), (6, vP g6 0), (20, .bool false), (12, .bool false), (5, vI 0), (4, vP g4 0), (2, vP g2 0), (1, .slice (some ⟨gA, oA, none⟩) n c)]
     refine from_start ?_
     refine fp HF 2 0 [(34, vI (IntKind.i64.wrap ((k : Int) + 1))), (33, vI k)] ?_; clear HF; intro a HF
     replace HF := HF.as (t := 34) (u := vI (k + 1 : Nat)) rfl (by rw [IntWalk.i64_in _ (by omega)]; simp)
     refine fp HF 1 2 [(8, vI (k + 1 : Nat))] ?_; clear HF; intro a HF
     refine from_done rfl ?_
     exact ⟨_, (by omega), k + 1, by omega, rfl, HF.sub (by kernel_rfl), HM.picks [0, 1, 2] (by decide) rfl⟩
    ·have HF := HF.on 38 hb38
     rw [← usedUp_no hb38] at HM
     have HF := HF.as (t := 7) (u := .int .i64 (((upTo e.kind (k + 1)).length : Nat) : Int)) rfl (by rw [upTo_no hb38])
     refine cond_false HF rfl (wp_skip (from_start ?_))
     refine fp HF 2 0 [(34, vI (IntKind.i64.wrap ((k : Int) + 1))), (33, vI k)] ?_; clear HF; intro a HF
     replace HF := HF.as (t := 34) (u := vI (k + 1 : Nat)) rfl (by rw [IntWalk.i64_in _ (by omega)]; simp)
     refine fp HF 1 2 [(8, vI (k + 1 : Nat))] ?_; clear HF; intro a HF
     refine from_done rfl ?_
     exact ⟨_, (by omega), k + 1, by omega, rfl, HF.sub (by kernel_rfl), HM.picks [0, 1, 2] (by decide) rfl⟩
   ·have HF := HF.on 32 hb32
    obtain rfl : k = 7 := by have := of_decide_eq_false hb32; omega
    refine cond_false HF rfl (wp_exit (wp_seq (wp_seq (from_start ?_))))
    refine fy HF HM 0 rfl rfl rfl (v := .agg ((usedUp e vs 7).cells)) (Yl.loadS rfl rfl ⟨(by kernel_rfl), (by kernel_rfl)⟩ rfl (fun _ h => range_of_block (h.blk (i := 0) rfl))) ?_; clear HF; intro a HF
    refine from_op HF (i := 1) rfl rfl ?_
    refine e_call HF (vs := [.agg ((usedUp e vs 7).cells)]) rfl (by kernel_rfl) (by kernel_rfl) rfl (by decide) (check06_any (usedUp e vs 7) (usedUp_ok he hvs 7) _) ?_
    rintro _ w49 ⟨rfl, hbw⟩
    refine ⟨_, rfl, ?_⟩
    replace HM := HM.call hbw
    clear HF; intro a HF
    refine fp HF 1 2 [(50, .bool (((usedUp e vs 7).check : Int) != (0 : Int)))] ?_; clear HF; intro a HF
    refine from_done rfl ?_
    rcases Bool.eq_false_or_eq_true (((usedUp e vs 7).check : Int) != (0 : Int)) with hb50 | hb50
    ·have HF := HF.on 50 hb50
     have hcb : (e.rmade vs).check ≠ 0 := by rw [bne_iff_ne, usedUp_seven] at hb50; omega
     refine cond_true HF rfl (wp_seq (from_start ?_))
     refine fy HF HM 0 rfl rfl rfl (v := .agg Ev.zero.cells) ((Yl.build (vs := []) rfl (by kernel_rfl) (by kernel_rfl))) ?_; clear HF; intro a HF
     refine from_op HF (i := 1) rfl rfl ?_
     refine e_storeAll HF HM (i := 1) (cs := #[vI 0, vI 0, vB 0, vB 0, vI 0, vI 0, vI 0, vI 0, vI 0, vQ 0, vI 0]) (ds := Ev.zero.cells) rfl rfl rfl rfl ⟨(by kernel_rfl), (by kernel_rfl)⟩ rfl rfl (ev_one Ev.zero) rfl ?_
     clear HM; intro w14_1 HM
     refine fp HF 1 2 [(5, vI 61)] ?_; clear HF; intro a HF
     refine from_done rfl ?_
     refine wp_ret ?_
     exact ret2 rfl HF (.cellS (i := 1) HF HM rfl rfl ⟨(by kernel_rfl), (by kernel_rfl)⟩ rfl) (.tmp HF rfl) (⟨by rw [Ev.rEv, Ev.rErr, if_neg hgood, if_neg hlg2, if_pos hcb]; rfl, HM.below⟩)
    ·have HF := HF.on 50 hb50
     have hcg : (e.rmade vs).check = 0 := by rw [bne_eq_false_iff_eq, usedUp_seven] at hb50; omega
     have hcg2 : ¬ (e.rmade vs).check ≠ 0 := by omega
     refine cond_false HF rfl (wp_skip (wp_seq (from_start ?_)))
     refine fy HF HM 0 rfl rfl rfl (v := .agg ((usedUp e vs 7).cells)) (Yl.loadS rfl rfl ⟨(by kernel_rfl), (by kernel_rfl)⟩ rfl (fun _ h => range_of_block (h.blk (i := 0) rfl))) ?_; clear HF; intro a HF
     refine from_op HF (i := 1) rfl rfl ?_
     refine e_storeAll HF HM (i := 1) (cs := #[vI 0, vI 0, vB 0, vB 0, vI 0, vI 0, vI 0, vI 0, vI 0, vQ 0, vI 0]) (ds := (usedUp e vs 7).cells) rfl rfl rfl rfl ⟨(by kernel_rfl), (by kernel_rfl)⟩ rfl rfl (ev_one (usedUp e vs 7)) rfl ?_
     clear HM; intro w15_1 HM
     refine fp HF 1 2 [(5, vI 0)] ?_; clear HF; intro a HF
     refine from_done rfl ?_
     refine wp_ret ?_
     exact ret2 rfl HF (.cellS (i := 1) HF HM rfl rfl ⟨(by kernel_rfl), (by kernel_rfl)⟩ rfl) (.tmp HF rfl) (⟨by rw [Ev.rEv, Ev.rErr, if_neg hgood, if_neg hlg2, if_neg hcg2, usedUp_seven]; rfl, HM.below⟩)
theorem rwith_any (e : Ev) (he : e.Ok) (A : Option Addr) (n c : Nat) (vs : List Nat) (w : World) (hr : Rd w w.heap.size 1 A n (vs.map U64)) (hvs : ∀ x ∈ vs, x < 18446744073709551616) :
    Calls Tryd.prog 84 #[.agg e.cells, .slice A n c] w (WithPost w (e.withEv vs) (e.withErr vs)) := by
  rw [← (rErr_eq e vs hvs).1, ← (rErr_eq e vs hvs).2]
  exact rwith_walk e he A n c vs w hr hvs (by simpa using hr.len)
end Go.Proofs.YtnakabnmjnfpcaaDoor

namespace Go.Proofs.YtnakabnmjnfpcaaDoor
open Go.RowKit
theorem ei_rev : EI Tryd.prog 37 65 (.agg Ev.zero.cells) 11 80 := ⟨by kernel_rfl, by kernel_rfl, rfl, by omega⟩
/-- The record as far as k values are written. -/
def putUp (b : Bs) (e : Ev) (k : Nat) : List Nat := [e.kind] ++ vbytes (e.seq - b.seq).toNat ++ vbytes (e.time - b.time).toNat ++ (e.vals.take k).flatMap vbytes
theorem putUp_zero (b : Bs) (e : Ev) : putUp b e 0 = [e.kind] ++ vbytes (e.seq - b.seq).toNat ++ vbytes (e.time - b.time).toNat := by simp [putUp]
theorem putUp_succ {b : Bs} {e : Ev} {k x : Nat} (h : e.vals[k]? = some x) : putUp b e (k + 1) = putUp b e k ++ vbytes x := by
  unfold putUp
  rw [List.take_add_one, h]
  simp
theorem putUp_all (b : Bs) (e : Ev) : putUp b e e.vals.length = recBytes b e := by
  unfold putUp recBytes recNums
  rw [List.take_length]
  simp
theorem putUp_len (b : Bs) (e : Ev) (k : Nat) : (putUp b e k).length ≤ 61 := by
  unfold putUp
  simp only [List.length_append, List.length_cons, List.length_nil]
  have h1 := vbytes_length (e.seq - b.seq).toNat
  have h2 := vbytes_length (e.time - b.time).toNat
  have h3 : ∀ l : List Nat, (l.flatMap vbytes).length ≤ l.length * 10 := by
    intro l
    induction l with
    | nil => simp
    | cons x r ih => rw [List.flatMap_cons, List.length_append, List.length_cons]; have := vbytes_length x; omega
  have h4 := h3 (e.vals.take k)
  have h5 := vals_len e
  rw [List.length_take] at h4
  omega
theorem takeR_kind {b : Bs} {cpu kd : Nat} {r : List Nat} (hb : b.right = true) (hu : (usesL kd).length ≠ 0) : takeR b cpu (kd :: r) = takeEv b cpu kd (readN (2 + (usesL kd).length) r) := by
  unfold takeR
  rw [if_neg (by simp [hb]), if_neg (by simp), if_neg (by simpa using hu)]
  rfl
theorem takeR_kindless {b : Bs} {cpu kd : Nat} {r : List Nat} (hb : b.right = true) (hu : (usesL kd).length = 0) : takeR b cpu (kd :: r) = (Ev.zero, 0, 60) := by
  unfold takeR
  rw [if_neg (by simp [hb]), if_neg (by simp), if_pos (by simpa using hu)]
theorem takeR_unread {b : Bs} {cpu kd u : Nat} {r xs : List Nat} {q : Nat × Nat × Nat} (hb : b.right = true) (hu : (usesL kd).length ≠ 0) (hj : readN (2 + (usesL kd).length) r = joinR xs u (readN (2 + (usesL kd).length - xs.length) (r.drop u))) (hlt : xs.length < 2 + (usesL kd).length) (hq : vread (r.drop u) = q) (hq2 : q.2.2 ≠ 0) : takeR b cpu (kd :: r) = (Ev.zero, 0, q.2.2) := by
  rw [takeR_kind hb hu, hj, show 2 + (usesL kd).length - xs.length = (2 + (usesL kd).length - xs.length - 1) + 1 by omega, joinR_bad (by rw [hq]; exact hq2)]
  unfold takeEv
  rw [if_pos (by simpa [hq] using hq2), hq]
theorem readN_on {kd u : Nat} {r xs : List Nat} {q : Nat × Nat × Nat} (hj : readN (2 + (usesL kd).length) r = joinR xs u (readN (2 + (usesL kd).length - xs.length) (r.drop u))) (hlt : xs.length < 2 + (usesL kd).length) (hq : vread (r.drop u) = q) (hq2 : q.2.2 = 0) :
    readN (2 + (usesL kd).length) r = joinR (xs ++ [q.1]) (u + q.2.1) (readN (2 + (usesL kd).length - (xs ++ [q.1]).length) (r.drop (u + q.2.1))) := by
  rw [hj, show 2 + (usesL kd).length - xs.length = (2 + (usesL kd).length - xs.length - 1) + 1 by omega, joinR_good (by rw [hq]; exact hq2), hq, List.drop_drop]
  congr 2
  simp; omega
theorem takeR_read {b : Bs} {cpu kd u x0 x1 : Nat} {r vs : List Nat} (hb : b.right = true) (hu : (usesL kd).length ≠ 0) (hj : readN (2 + (usesL kd).length) r = joinR (x0 :: x1 :: vs) u (readN (2 + (usesL kd).length - (x0 :: x1 :: vs).length) (r.drop u))) (hl : (x0 :: x1 :: vs).length = 2 + (usesL kd).length) :
    takeR b cpu (kd :: r) = takeEv b cpu kd (x0 :: x1 :: vs, u, 0) := by
  rw [takeR_kind hb hu, hj, hl, Nat.sub_self]
  unfold joinR readN
  simp
theorem takeEv_far {b : Bs} {cpu kd u x0 x1 : Nat} {vs : List Nat} (hb : 1 ≤ b.seq ∧ 0 ≤ b.time) (h : 281474976710656 < x0 ∨ 281474976710656 < x1) : takeEv b cpu kd (x0 :: x1 :: vs, u, 0) = (Ev.zero, 0, 61) := by
  unfold takeEv
  rw [if_neg (by simp), if_pos (by simp; omega)]
theorem takeEv_bad {b : Bs} {cpu kd u x0 x1 : Nat} {vs : List Nat} (h : (b.ev cpu kd x0 x1).withErr vs ≠ 0) : takeEv b cpu kd (x0 :: x1 :: vs, u, 0) = (Ev.zero, 0, 61) := by
  unfold takeEv
  rw [if_neg (by simp)]
  split
  · rfl
  · rw [if_pos (by simpa using h)]
theorem takeEv_good {b : Bs} {cpu kd u x0 x1 : Nat} {vs : List Nat} (h : (b.ev cpu kd x0 x1).withErr vs = 0) : takeEv b cpu kd (x0 :: x1 :: vs, u, 0) = ((b.ev cpu kd x0 x1).withEv vs, 1 + u, 0) := by
  have hm : ((b.ev cpu kd x0 x1).made vs).check = 0 := by
    unfold Ev.withErr at h
    split at h
    · cases h
    · split at h
      · cases h
      · split at h
        · cases h
        · rename_i h3; exact Decidable.not_not.1 h3
  have hv := ok_vals hm
  have hk := made_kind (b.ev cpu kd x0 x1) vs
  rw [hk.2.1, hk.2.2.1] at hv
  obtain ⟨_, _, _, h1, h2, h3, h4⟩ := hv
  have h5 : b.seq + (x0 : Int) ≤ 281474976710656 := h2
  have h6 : b.time + (x1 : Int) ≤ 281474976710656 := h4
  unfold takeEv Ev.withEv
  rw [if_neg (by simp), if_neg (by simp; omega), if_neg (by simpa using h), if_pos h]
  rfl
theorem bev_ok {b : Bs} {cpu kd x0 x1 : Nat} (hb : 1 ≤ b.seq ∧ b.seq ≤ 281474976710656 ∧ 0 ≤ b.time ∧ b.time ≤ 281474976710656) (hc : cpu < 256) (hk : kd < 256) (h : ¬ (281474976710656 < x0 ∨ 281474976710656 < x1)) : (b.ev cpu kd x0 x1).Ok := by
  have z : I64 0 := ⟨by decide, by decide⟩
  have zm : (0 : Nat) < 18446744073709551616 := by decide
  exact ⟨⟨by show _ ≤ b.seq + (x0 : Int); omega, by show b.seq + (x0 : Int) ≤ _; omega⟩, ⟨by show _ ≤ b.time + (x1 : Int); omega, by show b.time + (x1 : Int) ≤ _; omega⟩, hc, hk, z, z, z, z, z, zm, z⟩
theorem right_bnd {b : Bs} (h : b.right = true) : 1 ≤ b.seq ∧ b.seq ≤ 281474976710656 ∧ 0 ≤ b.time ∧ b.time ≤ 281474976710656 := by simpa [Bs.right] using h
theorem uses_kind {kd : Nat} (h : 1 ≤ kd ∧ kd ≤ 10) : (usesL kd).length ≠ 0 := by
  obtain rfl | rfl | rfl | rfl | rfl | rfl | rfl | rfl | rfl | rfl : kd = 1 ∨ kd = 2 ∨ kd = 3 ∨ kd = 4 ∨ kd = 5 ∨ kd = 6 ∨ kd = 7 ∨ kd = 8 ∨ kd = 9 ∨ kd = 10 := by omega
  all_goals decide
theorem uses_kindless {kd : Nat} (h : ¬ (1 ≤ kd ∧ kd ≤ 10)) : (usesL kd).length = 0 := by
  unfold usesL
  split <;> first | omega | rfl
theorem rowGo_next {l : List Ev} {k : Nat} {e : Ev} (hk : l[k]? = some e) : rowGo (prevOf l k) k (l.drop k) = if e.check ≠ 0 then ((k : Int), e.check) else if (prevOf l k).all (fun q => e.after q) = false then ((k : Int), 71) else rowGo (prevOf l (k + 1)) (k + 1) (l.drop (k + 1)) := by
  obtain ⟨hl, he⟩ := List.getElem?_eq_some_iff.1 hk
  rw [List.drop_eq_getElem_cons hl, he, show prevOf l (k + 1) = some e from hk]
  rfl
end Go.Proofs.YtnakabnmjnfpcaaDoor

namespace Go.Proofs.YtnakabnmjnfpcaaDoor
open Go.RowKit
theorem bytesIs_none {w w' : World} {b : Bs} {l : List Ev} {er : Nat} (h : writeErr b l = er) (he : er ≠ 0) (hb : Below w.heap.size w w') : BytesIs w (writeErr b l) (writeOut b l) (.returned (.tuple #[.slice none 0 0, .int .i64 (er : Int)])) w' := by
  have ho : writeOut b l = [] := by unfold writeOut; rw [if_neg (by omega)]
  rw [ho, h]
  exact ⟨⟨none, 0, rfl, World.ownsRow_nil _ _ _ _, Nat.le_refl _⟩, hb⟩
theorem writeErr_row {b : Bs} {l : List Ev} (h : (rowR l).2 ≠ 0) : writeErr b l = (rowR l).2 := by unfold writeErr; rw [if_pos h]
theorem writeErr_base {b : Bs} {l : List Ev} (h : (rowR l).2 = 0) (hb : ¬ b.right = true) : writeErr b l = 70 := by unfold writeErr; rw [if_neg (by omega), if_neg (by simp [hb])]
theorem recsSnoc7 : ∀ (l : List Ev) (b : Bs) (e : Ev), recs b (l ++ [e]) = recs b l ++ recBytes (match l.getLast? with | some q => q.at | none => b) e
  | [], b, e => by simp [recs]
  | x :: l, b, e => by
    rw [List.cons_append, recs, recs, recsSnoc7 l x.at e, List.append_assoc]
    congr 2
    cases l with
    | nil => rfl
    | cons y r => simp only [List.getLast?_cons, Option.getD_some]
def writeUp (b : Bs) (l : List Ev) (k : Nat) : List Nat := recs b (l.take k)
theorem recsLen7 : ∀ (l : List Ev) (b : Bs), (recs b l).length ≤ 61 * l.length
  | [], _ => by simp [recs]
  | e :: l, b => by
    rw [recs, List.length_append, List.length_cons]
    have h1 := recsLen7 l e.at
    have h2 := rec_len b e
    omega
theorem writeUp_len (b : Bs) (l : List Ev) (k : Nat) : (writeUp b l k).length ≤ 61 * k := by
  have h1 := recsLen7 (l.take k) b
  have h2 : (l.take k).length ≤ k := by rw [List.length_take]; omega
  unfold writeUp
  omega
theorem putOut_le (b : Bs) (e : Ev) : (putOut b e).length ≤ 61 := by
  unfold putOut
  split
  · exact rec_len b e
  · simp
/-- What is known when k records are written. -/
structure WriteAt (b : Bs) (l : List Ev) (k : Nat) (bk : Bs) : Prop where
  base : bk = baseAt b l k
  head : 0 < k → l.head?.all b.behind = true
theorem WriteAt.start (b : Bs) (l : List Ev) : WriteAt b l 0 b := ⟨rfl, fun h => by omega⟩
section
variable {b bk : Bs} {l : List Ev} {k : Nat} {e : Ev}
theorem WriteAt.bad (h : WriteAt b l k bk) (hr : (rowR l).2 = 0) (hb : b.right = true) (hk : l[k]? = some e) (hp : putErr bk e ≠ 0) : k = 0 := by
  rcases Nat.eq_zero_or_pos k with h0 | h0
  · exact h0
  · obtain ⟨hl, he⟩ := List.getElem?_eq_some_iff.1 hk
    have := put_good hr hb (h.head h0) k hl
    rw [he, ← h.base] at this
    exact absurd this hp
theorem WriteAt.fail (h : WriteAt b l k bk) (hr : (rowR l).2 = 0) (hb : b.right = true) (hk : l[k]? = some e) (h0 : k = 0) (hp : putErr bk e ≠ 0) : writeErr b l = putErr bk e := by
  subst h0
  have hbk : bk = b := h.base
  subst hbk
  obtain ⟨g1, _, _⟩ := rowGo_good l none 0 hr
  have hc := g1 e (List.mem_of_getElem? hk)
  have hbh : ¬ bk.behind e = true := by
    intro h1
    unfold putErr at hp
    rw [if_neg (by simp [hc]), if_pos ⟨hb, h1⟩] at hp
    exact hp rfl
  have hh : l.head? = some e := by rw [List.head?_eq_getElem?]; exact hk
  unfold writeErr putErr
  rw [if_neg (by omega), if_neg (by simp [hh, hbh]), if_neg (by simp [hc]), if_neg (by simp [hbh])]
theorem WriteAt.up (h : WriteAt b l k bk) (hk : l[k]? = some e) (hp : putErr bk e = 0) : writeUp b l (k + 1) = writeUp b l k ++ putOut bk e := by
  obtain ⟨hl, he⟩ := List.getElem?_eq_some_iff.1 hk
  unfold writeUp putOut
  rw [List.take_add_one, hk, if_pos hp, h.base]
  show recs b (l.take k ++ [e]) = _
  rw [recsSnoc7]
  congr 2
  cases k with
  | zero => simp [baseAt]
  | succ j =>
    rw [show (l.take (j + 1)).getLast? = l[j]? from by rw [List.getLast?_take]; simp [List.getElem?_eq_getElem (show j < l.length by omega)]]
    rfl
theorem WriteAt.next (h : WriteAt b l k bk) (hk : l[k]? = some e) (hp : putErr bk e = 0) : WriteAt b l (k + 1) e.at := by
  refine ⟨by show e.at = (match l[k]? with | some e => e.at | none => b); rw [hk], fun _ => ?_⟩
  rcases Nat.eq_zero_or_pos k with h0 | h0
  · subst h0
    have hbk : bk = b := h.base
    subst hbk
    have hh : l.head? = some e := by rw [List.head?_eq_getElem?]; exact hk
    rw [hh]
    unfold putErr at hp
    split at hp
    · omega
    · split at hp
      · rename_i h1; exact h1.2
      · omega
  · exact h.head h0
theorem WriteAt.done {w w' : World} {n c : Nat} {A : Option Addr} (h : WriteAt b l n bk) (hr : (rowR l).2 = 0) (hb : b.right = true) (hln : l.length = n) (ho : w'.ownsRow w.heap.size 5 1 (.slice A (writeUp b l n).length c) (writeUp b l n).length ((writeUp b l n).map B8)) (hc : (writeUp b l n).length ≤ c) (hw : Below w.heap.size w w') :
    BytesIs w (writeErr b l) (writeOut b l) (.returned (.tuple #[.slice A (writeUp b l n).length c, .int .i64 0])) w' := by
  have hh : l.head?.all b.behind = true := by
    rcases Nat.eq_zero_or_pos n with h0 | h0
    · subst h0; rw [List.length_eq_zero_iff.1 hln]; rfl
    · exact h.head h0
  have he : writeErr b l = 0 := by unfold writeErr; rw [if_neg (by omega), if_pos ⟨hb, hh⟩]
  have hout : writeOut b l = writeUp b l n := by unfold writeOut writeUp; rw [if_pos he, ← hln, List.take_length]
  rw [he, hout]
  exact ⟨⟨A, c, rfl, ho, hc⟩, hw⟩
end
/-- Events, how many bytes, the error's number; the events' row is the call's own. -/
def EvsIs (T : TypeId) (w : World) (q : List Ev × Nat × Nat) (r : Ending) (w' : World) : Prop :=
  (∃ A c, r = .returned (.tuple #[.slice A q.1.length c, .int .i64 (q.2.1 : Int), .int .i64 (q.2.2 : Int)]) ∧ w'.ownsRow w.heap.size T 11 (.slice A q.1.length c) q.1.length (q.1.flatMap evL) ∧ q.1.length ≤ c) ∧ Below w.heap.size w w'
theorem evsIs_none {T : TypeId} {w w' : World} {q : List Ev × Nat × Nat} {er : Nat} (h : q = ([], 0, er)) (hb : Below w.heap.size w w') : EvsIs T w q (.returned (.tuple #[.slice none 0 0, .int .i64 0, .int .i64 (er : Int)])) w' := by
  subst h
  exact ⟨⟨none, 0, rfl, World.ownsRow_nil _ _ _ _, Nat.le_refl _⟩, hb⟩
theorem evsIs_row {T : TypeId} {w w' : World} {q : List Ev × Nat × Nat} {es : List Ev} {u c : Nat} {A : Option Addr} (h : q = (es, u, 0)) (ho : w'.ownsRow w.heap.size T 11 (.slice A es.length c) es.length (es.flatMap evL)) (hc : es.length ≤ c) (hb : Below w.heap.size w w') : EvsIs T w q (.returned (.tuple #[.slice A es.length c, .int .i64 (u : Int), .int .i64 0])) w' := by
  subst h
  exact ⟨⟨A, c, rfl, ho, hc⟩, hb⟩
/-- What is known when some events are read. -/
structure ReadJn (b : Bs) (cpu : Nat) (m : Nat) (l : List Nat) (es : List Ev) (u : Nat) (bk : Bs) : Prop where
  fits : u ≤ l.length
  most : es.length ≤ u
  few : es.length ≤ m
  last : ∀ q, es.getLast? = some q → bk = q.at
  said : readGo cpu m b none l = joinE es u (readGo cpu (m - es.length) bk es.getLast? (l.drop u))
section
variable {b bk : Bs} {cpu m u L er : Nat} {l : List Nat} {es : List Ev} {e : Ev}
theorem ReadJn.start (b : Bs) (cpu m : Nat) (l : List Nat) : ReadJn b cpu m l [] 0 b := ⟨Nat.zero_le _, Nat.le_refl _, Nat.zero_le _, fun q h => by simp at h, (joinE_nil cpu m b none l).symm⟩
theorem ReadJn.bad (h : ReadJn b cpu m l es u bk) (hm : es.length < m) (hq : takeR bk cpu (l.drop u) = (e, L, er)) (he : er ≠ 0) : readGo cpu m b none l = ([], 0, er) := by
  rw [h.said, show m - es.length = (m - es.length - 1) + 1 by omega]
  exact joinE_bad hq he es u
theorem ReadJn.same (h : ReadJn b cpu m l es u bk) (hm : es.length < m) (hq : takeR bk cpu (l.drop u) = (e, L, 0)) (he : es.getLast?.any (fun q => decide (e.seq = q.seq)) = true) : readGo cpu m b none l = ([], 0, 71) := by
  rw [h.said, show m - es.length = (m - es.length - 1) + 1 by omega]
  exact joinE_same hq he es u
theorem ReadJn.next (h : ReadJn b cpu m l es u bk) (hm : es.length < m) (hq : takeR bk cpu (l.drop u) = (e, L, 0)) (he : es.getLast?.any (fun q => decide (e.seq = q.seq)) = false) : ReadJn b cpu m l (es ++ [e]) (u + L) e.at := by
  have h1 := takeR_len bk cpu (l.drop u)
  rw [hq, List.length_drop] at h1
  simp only at h1
  have h2 := h1.2 trivial
  have h3 := h.fits
  have h4 := h.most
  refine ⟨by omega, by simp; omega, by simp; omega, fun q hq => ?_, ?_⟩
  · simp at hq; rw [hq]
  · rw [h.said, show m - es.length = (m - es.length - 1) + 1 by omega, joinE_good hq he es u, List.drop_drop]
    simp [Nat.sub_sub]
theorem ReadJn.done (h : ReadJn b cpu m l es u bk) (hm : m ≤ es.length) : readGo cpu m b none l = (es, u, 0) := by
  rw [h.said, show m - es.length = 0 by omega]
  simp [readGo, joinE]
theorem readR_go {n : Int} (h : ¬ n < 0) (hb : b.right = true) : readR b cpu n l = readGo cpu n.toNat b none l := by unfold readR; rw [if_neg h, if_neg (by simp [hb])]
end
end Go.Proofs.YtnakabnmjnfpcaaDoor

namespace Go.Proofs.YtnakabnmjnfpcaaDoor
open Go.RowKit
def markB (k : Nat) : Nat := (8000024 + k) * 11400714819323198485 % 18446744073709551616 / 72057594037927936
def marks (k : Nat) : List Nat := (List.range k).map markB
theorem marks_succ (k : Nat) : marks (k + 1) = marks k ++ [markB k] := by unfold marks; rw [List.range_succ, List.map_append]; rfl
theorem markB_lt (k : Nat) : markB k < 256 := by unfold markB; omega
/-- A list that is lent: twelve marks lie behind it. -/
def LentIs (w : World) (l : List Nat) (r : Ending) (w' : World) : Prop :=
  (∃ A c, r = .returned (.slice A l.length c) ∧ w'.ownsRow w.heap.size 5 1 (.slice A (l.length + 12) c) (l.length + 12) ((l ++ marks 12).map B8) ∧ l.length + 12 ≤ c) ∧ Below w.heap.size w w'
theorem mark_u64 (k : Nat) (hk : k ≤ 1000) : IntKind.u64.wrap ((8000024 + k : Nat) : Int) = ((8000024 + k : Nat) : Int) := by rw [IntKind.wrap_u64]; omega
theorem mark_mul (k : Nat) : IntKind.u64.wrap (((8000024 + k : Nat) : Int) * 11400714819323198485) = (((8000024 + k) * 11400714819323198485 % 18446744073709551616 : Nat) : Int) := by rw [IntKind.wrap_u64]; omega
theorem mark_shr (x : Nat) : Int.fdiv (x : Int) (2 ^ (min (56 : Int).toNat (IntKind.u64).bits)) = ((x / 72057594037927936 : Nat) : Int) := by
  rw [show (2 : Int) ^ (min (56 : Int).toNat (IntKind.u64).bits) = 72057594037927936 from by decide, Int.fdiv_eq_ediv_of_nonneg _ (by decide)]
  rfl
theorem mark_u8 (k : Nat) : IntKind.u8.wrap (((8000024 + k) * 11400714819323198485 % 18446744073709551616 / 72057594037927936 : Nat) : Int) = (markB k : Int) := by
  have := markB_lt k
  unfold markB at *
  rw [IntKind.wrap_u8]
  omega
theorem lent_at {l : List Nat} {n k : Nat} (hl : l.length = n) (h : k < n + 12) : (k < n → ∃ x, l[k]? = some x ∧ (l ++ marks 12)[k]? = some x) ∧ (n ≤ k → (l ++ marks 12)[k]? = some (markB (k - n))) := by
  refine ⟨fun hk => ⟨l[k], List.getElem?_eq_getElem (by omega), ?_⟩, fun hk => ?_⟩
  · rw [List.getElem?_append_left (by omega)]; exact List.getElem?_eq_getElem (by omega)
  · rw [List.getElem?_append_right (by omega), hl]
    unfold marks
    rw [List.getElem?_map, List.getElem?_range (by omega)]
    rfl
end Go.Proofs.YtnakabnmjnfpcaaDoor

set_option linter.all false
namespace Go.Proofs.YtnakabnmjnfpcaaDoor
open Go.RowKit
set_option maxRecDepth 100000 in
set_option maxHeartbeats 4000000 in
theorem mark_any (k : Nat) (hk : k ≤ 1000) (w : World) : Calls Tryd.prog 42 #[.int .i64 1, .int .i64 (k : Int)] w fun r w' => r = .returned (.int .i64 ((8000024 + k : Nat) : Int)) ∧ Below w.heap.size w w' := by
 refine calls_enter (vs := [vI 1, vI k]) Tryd.func42 rfl rfl (by kernel_rfl) (σ0 := [(0, vI 1), (1, vI k)]) rfl ?_
 intro a HF
 have HM := Mem.start w
 refine wp_seq (from_start ?_)
 refine fp HF 1 0 [(4, vI 0)] ?_; clear HF; intro a HF
 refine from_done rfl ?_
 refine wp_seq (from_start ?_)
 refine fp HF 5 0 [(9, vI (IntKind.i64.wrap (8000024 + (k : Int)))), (8, vI k), (7, vI 8000024), (6, vI 8), (5, vI 1)] ?_; clear HF; intro a HF
 replace HF := HF.as (t := 9) (u := vI (8000024 + k : Nat)) rfl (by rw [IntWalk.i64_in _ (by omega)]; simp)
 refine fp HF 1 5 [(4, vI (8000024 + k : Nat))] ?_; clear HF; intro a HF
 refine from_done rfl ?_
 refine wp_ret ?_
 exact ret1 rfl HF (.tmp HF rfl) (⟨rfl, HM.below⟩)
set_option maxRecDepth 100000 in
set_option maxHeartbeats 4000000 in
theorem markByte_any (k : Nat) (hk : k ≤ 1000) (w : World) : Calls Tryd.prog 25 #[.int .i64 1, .int .i64 (k : Int)] w fun r w' => r = .returned (.int .u8 (markB k : Int)) ∧ Below w.heap.size w w' := by
 refine calls_enter (vs := [vI 1, vI k]) Tryd.func25 rfl rfl (by kernel_rfl) (σ0 := [(0, vI 1), (1, vI k)]) rfl ?_
 intro a HF
 have HM := Mem.start w
 refine wp_seq (from_start ?_)
 refine fp HF 1 0 [(4, vB 0)] ?_; clear HF; intro a HF
 refine from_done rfl ?_
 refine wp_seq (from_start ?_)
 refine fp HF 2 0 [(6, vI k), (5, vI 1)] ?_; clear HF; intro a HF
 refine from_op HF (i := 2) rfl rfl ?_
 refine e_call HF (vs := [vI 1, vI k]) rfl (by kernel_rfl) (by kernel_rfl) rfl (by decide) (mark_any k hk _) ?_
 rintro _ w7 ⟨rfl, hbw⟩
 refine ⟨_, rfl, ?_⟩
 replace HM := HM.call hbw
 clear HF; intro a HF
 refine fp HF 1 3 [(8, vQ (IntKind.u64.wrap ((8000024 + k : Nat) : Int)))] ?_; clear HF; intro a HF
 replace HF := HF.as (t := 8) (u := vQ (8000024 + k : Nat)) rfl (by rw [mark_u64 k hk])
 refine fp HF 1 4 [(9, vQ (IntKind.u64.wrap (((8000024 + k : Nat) : Int) * 11400714819323198485)))] ?_; clear HF; intro a HF
 replace HF := HF.as (t := 9) (u := vQ ((8000024 + k) * 11400714819323198485 % 18446744073709551616 : Nat)) rfl (by rw [mark_mul k])
 refine fp HF 1 5 [(10, vQ (Int.fdiv (((8000024 + k) * 11400714819323198485 % 18446744073709551616 : Nat) : Int) (2 ^ (min (56 : Int).toNat (IntKind.u64).bits))))] ?_; clear HF; intro a HF
 replace HF := HF.as (t := 10) (u := vQ ((8000024 + k) * 11400714819323198485 % 18446744073709551616 / 72057594037927936 : Nat)) rfl (by rw [mark_shr])
 refine fp HF 1 6 [(11, vB (IntKind.u8.wrap (((8000024 + k) * 11400714819323198485 % 18446744073709551616 / 72057594037927936 : Nat) : Int)))] ?_; clear HF; intro a HF
 replace HF := HF.as (t := 11) (u := vB (markB k)) rfl (by rw [mark_u8 k])
 refine fp HF 1 7 [(4, vB (markB k))] ?_; clear HF; intro a HF
 refine from_done rfl ?_
 refine wp_ret ?_
 exact ret1 rfl HF (.tmp HF rfl) (⟨rfl, HM.below⟩)
set_option maxRecDepth 100000 in
set_option maxHeartbeats 4000000 in
theorem lent_any (A : Option Addr) (n c : Nat) (l : List Nat) (w : World) (hr : Rd w w.heap.size 1 A n (l.map B8)) (hn : n ≤ 140737488351232) (hln : l.length = n) :
    Calls Tryd.prog 8 #[.slice A n c] w (LentIs w l) := by
 refine calls_enter (vs := [.slice A n c]) Tryd.func8 rfl rfl (by kernel_rfl) (σ0 := [(0, .slice A n c)]) rfl ?_
 intro a HF
 have HM := Mem.start w
 refine wp_seq (from_start ?_)
 refine fp HF 1 0 [(2, .slice none 0 0)] ?_; clear HF; intro a HF
 refine from_done rfl ?_
 refine wp_seq (from_start ?_)
 refine fp HF 1 0 [(5, .slice A n c)] ?_; clear HF; intro a HF
 refine fy HF HM 1 rfl rfl rfl (Yl.len rfl rfl (by kernel_rfl)) ?_; clear HF; intro a HF
 refine fp HF 1 2 [(7, vI (IntKind.i64.wrap ((n : Int) + 12)))] ?_; clear HF; intro a HF
 replace HF := HF.as (t := 7) (u := vI (n + 12 : Nat)) rfl (by rw [IntWalk.i64_in _ (by omega)]; simp)
 refine from_op HF (i := 3) rfl rfl ?_
 refine e_make0 HF HM (m := (n + 12)) rfl ei_u8 rfl rfl (by omega) (by omega) rfl (by decide) ?_
 clear HF HM; intro a w8 g8 HF HM
 refine fp HF 1 4 [(3, vS g8 0 (n + 12))] ?_; clear HF; intro a HF
 refine from_done rfl ?_
 refine wp_seq (from_start ?_)
 refine fp HF 2 0 [(10, .slice A n c), (9, vS g8 0 (n + 12))] ?_; clear HF; intro a HF
 refine from_op HF (i := 2) rfl rfl ?_
 refine e_append_wide HF HM (i := 0) rfl ei_u8 rfl rfl rfl (news := (l.map B8)) (HM.old hr) (one_B8 _) (by omega) (by omega) rfl (by decide) ?_
 clear HF HM; intro a w11 A11 c11 HF HM hc11
 refine fp HF 1 3 [(3, .slice A11 (0 + n) c11)] ?_; clear HF; intro a HF
 refine from_done rfl ?_
 have hnA11 : 0 + n = n + 0 := by omega
 replace HM := HM.reRow (i := 0) (ys := (l ++ marks 0).map B8) rfl hnA11 (by simp [marks])
 rw [hnA11] at hc11
 replace HF := HF.as (t := 3) (u := .slice A11 (n + 0) c11) rfl (by rw [hnA11])
 replace HF := HF.as (t := 11) (u := .slice A11 (n + 0) c11) rfl (by rw [hnA11])
 refine wp_seq (wp_seq (from_start ?_))
 refine fp HF 1 0 [(4, vI 0)] ?_; clear HF; intro a HF
 refine from_done rfl ?_
 refine wp_block ?_
 refine loop_nat (fun mS aS wS => ∃ (k : Nat) (Ak : Option Addr) (ck : Nat), (k ≤ 12) ∧ (n + k ≤ ck) ∧ mS = 12 - k ∧ Fr aS 25 [] [(4, vI k), (11, .slice A11 (n + 0) c11), (3, .slice Ak (n + k) ck), (2, .slice none 0 0), (0, .slice A n c)] ∧ Mem w wS [.row (.slice Ak (n + k) ck) (n + k) ((l ++ marks k).map B8) 5 1]) (m := 12 - 0) ⟨0, A11, c11, by omega, hc11, rfl, HF.sub (by kernel_rfl), HM.picks [0] (by decide) rfl⟩ ?_
 clear HF HM; rintro mS a w_ ⟨k, Ak, ck, hk, hck, rfl, HF, HM⟩
 refine wp_seq (wp_seq (from_start ?_))
 refine fp HF 2 0 [(13, .bool (decide ((k : Int) < (12 : Int)))), (12, vI k)] ?_; clear HF; intro a HF
 refine from_done rfl ?_
 rcases Bool.eq_false_or_eq_true (decide ((k : Int) < (12 : Int))) with hb13 | hb13
 ·have HF := HF.on 13 hb13
  have hk13 : k < 12 := by have := of_decide_eq_true hb13; omega
  refine cond_true HF rfl (wp_skip (wp_seq (wp_block (from_start ?_))))
  refine fp HF 2 0 [(17, vI k), (16, .slice Ak (n + k) ck)] ?_; clear HF; intro a HF
  refine from_op HF (i := 2) rfl rfl ?_
  refine e_call HF (vs := [vI 1, vI k]) rfl (by kernel_rfl) (by kernel_rfl) rfl (by decide) (markByte_any k (by omega) _) ?_
  rintro _ w18 ⟨rfl, hbw⟩
  refine ⟨_, rfl, ?_⟩
  replace HM := HM.call hbw
  clear HF; intro a HF
  refine from_op HF (i := 3) rfl rfl ?_
  refine e_slice HF HM (vs := [(0, vB (markB k))]) (cs := #[vB (markB k)]) rfl ei_u8 (by decide) rfl (by kernel_rfl) rfl (by decide) ?_
  clear HF HM; intro a w19 g19 HF HM
  refine from_op HF (i := 4) rfl rfl ?_
  refine e_append HF HM (i := 1) rfl ei_u8 rfl rfl rfl (news := [B8 (markB k)]) (HM.rdBlk (i := 0) (n := 1) (size := 1) rfl rfl) (by simp [Value.oneCell', U64, B8]) (by omega) (by omega) rfl (by decide) ?_
  clear HF HM; intro a w20 A20 c20 HF HM hc20
  refine fp HF 1 5 [(3, .slice A20 (n + k + 1) c20)] ?_; clear HF; intro a HF
  refine from_done rfl ?_
  replace HM := HM.picks (fs' := [.row (.slice A20 (n + k + 1) c20) (n + k + 1) (((l ++ marks k).map B8) ++ [B8 (markB k)]) 5 1]) [1] (by decide) rfl
  have hnA20 : n + k + 1 = n + (k + 1) := by omega
  replace HM := HM.reRow (i := 0) (ys := (l ++ marks (k + 1)).map B8) rfl hnA20 (by rw [marks_succ]; simp)
  rw [hnA20] at hc20
  replace HF := HF.as (t := 3) (u := .slice A20 (n + (k + 1)) c20) rfl (by rw [hnA20])
  replace HF := HF.as (t := 20) (u := .slice A20 (n + (k + 1)) c20) rfl (by rw [hnA20])
  refine from_start ?_
  refine fp HF 2 0 [(15, vI (IntKind.i64.wrap ((k : Int) + 1))), (14, vI k)] ?_; clear HF; intro a HF
  replace HF := HF.as (t := 15) (u := vI (k + 1 : Nat)) rfl (by rw [IntWalk.i64_in _ (by omega)]; simp)
  refine fp HF 1 2 [(4, vI (k + 1 : Nat))] ?_; clear HF; intro a HF
  refine from_done rfl ?_
  exact ⟨_, (by omega), k + 1, A20, c20, by omega, hc20, rfl, HF.sub (by kernel_rfl), HM.picks [0] (by decide) rfl⟩
 ·have HF := HF.on 13 hb13
  obtain rfl : k = 12 := by have := of_decide_eq_false hb13; omega
  refine cond_false HF rfl (wp_exit (wp_seq (from_start ?_)))
  refine fp HF 2 0 [(22, .slice A n c), (21, .slice Ak (n + 12) ck)] ?_; clear HF; intro a HF
  refine fy HF HM 2 rfl rfl rfl (Yl.len rfl rfl (by kernel_rfl)) ?_; clear HF; intro a HF
  refine fy HF HM 3 rfl rfl rfl (v := .slice Ak n ck) (Yl.sliceUpto ei_u8 (j := n) rfl rfl rfl (by omega)) ?_; clear HF; intro a HF
  refine fp HF 1 4 [(2, .slice Ak n ck)] ?_; clear HF; intro a HF
  refine from_done rfl ?_
  refine wp_ret ?_
  exact ret1 rfl HF (.tmp HF rfl) (⟨⟨Ak, ck, by rw [hln], by rw [hln]; exact HM.own (i := 0) rfl, by omega⟩, HM.below⟩)
set_option maxRecDepth 100000 in
set_option maxHeartbeats 4000000 in
theorem kept_any (A A2 : Option Addr) (n c c2 : Nat) (l : List Nat) (w : World) (hr : Rd w w.heap.size 1 A (n + 12) ((l ++ marks 12).map B8)) (hc : n + 12 ≤ c) (hr2 : Rd w w.heap.size 1 A2 n (l.map B8)) (hn : n ≤ 140737488351232) (hln : l.length = n) :
    Calls Tryd.prog 15 #[.slice A n c, .slice A2 n c2] w (BoolPost w true) := by
 refine calls_enter (vs := [.slice A n c, .slice A2 n c2]) Tryd.func15 rfl rfl (by kernel_rfl) (σ0 := [(0, .slice A n c), (1, .slice A2 n c2)]) rfl ?_
 intro a HF
 have HM := Mem.start w
 refine wp_seq (from_start ?_)
 refine fp HF 1 0 [(4, .bool false)] ?_; clear HF; intro a HF
 refine from_done rfl ?_
 refine wp_seq (wp_seq (from_start ?_))
 refine fp HF 1 0 [(7, .slice A n c)] ?_; clear HF; intro a HF
 refine fy HF HM 1 rfl rfl rfl (Yl.len rfl rfl (by kernel_rfl)) ?_; clear HF; intro a HF
 refine fp HF 1 2 [(9, .slice A2 n c2)] ?_; clear HF; intro a HF
 refine fy HF HM 3 rfl rfl rfl (Yl.len rfl rfl (by kernel_rfl)) ?_; clear HF; intro a HF
 refine fp HF 1 4 [(11, .bool ((n : Int) != (n : Int)))] ?_; clear HF; intro a HF
 replace HF := HF.as (t := 11) (u := .bool false) rfl (by simp)
 refine from_done rfl ?_
 refine cond_false HF rfl (wp_skip (wp_seq (from_start ?_)))
 refine fp HF 2 0 [(13, .slice A2 n c2), (12, .slice A n c)] ?_; clear HF; intro a HF
 refine fy HF HM 2 rfl rfl rfl (Yl.len rfl rfl (by kernel_rfl)) ?_; clear HF; intro a HF
 refine fp HF 1 3 [(15, vI (IntKind.i64.wrap ((n : Int) + 12)))] ?_; clear HF; intro a HF
 replace HF := HF.as (t := 15) (u := vI (n + 12 : Nat)) rfl (by rw [IntWalk.i64_in _ (by omega)]; simp)
 refine fy HF HM 4 rfl rfl rfl (v := .slice A (n + 12) c) (Yl.sliceUpto ei_u8 (j := (n + 12)) rfl rfl rfl (hc)) ?_; clear HF; intro a HF
 refine fp HF 1 5 [(5, .slice A (n + 12) c)] ?_; clear HF; intro a HF
 refine from_done rfl ?_
 refine wp_seq (wp_seq (from_start ?_))
 refine fp HF 1 0 [(6, vI 0)] ?_; clear HF; intro a HF
 refine from_done rfl ?_
 refine wp_block ?_
 refine loop_nat (fun mS aS wS => ∃ (k : Nat), (k ≤ n + 12) ∧ mS = n + 12 - k ∧ Fr aS 58 [] [(6, vI k), (5, .slice A (n + 12) c), (11, .bool false), (4, .bool false), (0, .slice A n c), (1, .slice A2 n c2)] ∧ Mem w wS []) (m := n + 12 - 0) ⟨0, Nat.zero_le _, rfl, HF.sub (by kernel_rfl), HM.picks [] (by decide) rfl⟩ ?_
 clear HF HM; rintro mS a w_ ⟨k, hk, rfl, HF, HM⟩
 refine wp_seq (wp_seq (from_start ?_))
 refine fp HF 2 0 [(18, .slice A (n + 12) c), (17, vI k)] ?_; clear HF; intro a HF
 refine fy HF HM 2 rfl rfl rfl (Yl.len rfl rfl (by kernel_rfl)) ?_; clear HF; intro a HF
 refine fp HF 1 3 [(20, .bool (decide ((k : Int) < ((n + 12) : Int))))] ?_; clear HF; intro a HF
 refine from_done rfl ?_
 rcases Bool.eq_false_or_eq_true (decide ((k : Int) < ((n + 12) : Int))) with hb20 | hb20
 ·have HF := HF.on 20 hb20
  have hk20 : k < n + 12 := by have := of_decide_eq_true hb20; omega
  refine cond_true HF rfl (wp_skip (wp_seq (wp_block ?_)))
  refine cut_seq (fun aS wS => Fr aS 58 [] [(57, .bool false), (20, .bool true), (6, vI k), (5, .slice A (n + 12) c), (11, .bool false), (4, .bool false), (0, .slice A n c), (1, .slice A2 n c2)] ∧ Mem w wS []) ?_ ?_
  ·
   refine any_start (by kernel_rfl) (fun wS => Mem w wS []) [] ?_
   replace HM := HM.drew
   have HS := HM.picks (fs' := []) [] (by decide) rfl
   refine ap HF (fun _ => HS) [0, 1] #[true, true, false, false, false, false, false, false, false, false, false, false, false, false, false, false, false, false, false, false, false, false, false, false, false, false, false, false, false, false, false, false, false, false, false] [(24, .slice A2 n c2), (23, vI k)] ?_; clear HF; intro a HF
   refine ay HF HS 2 rfl rfl rfl (Yl.len rfl rfl (by kernel_rfl)) ?_; clear HF; intro a HF
   refine ap HF (fun _ => HS) [3, 4] #[true, true, true, true, true, false, false, false, false, false, false, false, false, false, false, false, false, false, false, false, false, false, false, false, false, false, false, false, false, false, false, false, false, false, false] [(27, .bool (decide ((k : Int) < (n : Int)))), (26, .bool (decide ((k : Int) < (n : Int))))] ?_; clear HF; intro a HF
   rcases Bool.eq_false_or_eq_true (decide ((k : Int) < (n : Int))) with hb27 | hb27
   ·have HF := HF.on 27 hb27
    have hk26 : k < n := by have := of_decide_eq_true hb27; omega
    obtain ⟨x, hx1, hx2⟩ := (lent_at hln hk20).1 hk26
    refine ap HF (fun _ => HS) [5, 6, 9, 10] #[true, true, true, true, true, true, true, false, false, true, true, false, false, false, false, false, false, false, false, false, false, false, false, false, false, false, false, false, false, false, false, false, false, false, false] [(33, vI k), (32, .slice A2 n c2), (29, vI k), (28, .slice A (n + 12) c)] ?_; clear HF; intro a HF
    obtain ⟨gA, oA, rfl, _⟩ := hr.some_at (Nat.lt_of_le_of_lt (Nat.zero_le _) (show k < (n + 12) from hk20)) (by decide)
    refine ay HF HS 7 rfl rfl rfl (v := vP gA (oA + k * 1)) ((Yl.indexAddr (ad := ⟨gA, oA, none⟩) (y := k) (sz := 1) rfl rfl rfl (hk20) (by kernel_rfl)).as (by rw [Addr.add_mid])) ?_; clear HF; intro a HF
    refine ay HF HS 8 rfl rfl rfl (v := vB x) (Yl.load1 rfl rfl (by kernel_rfl) (fun _ h => (h.old hr).oneAt1 (k := k) (map_at (F := B8) (k := k) (x := x) (hx2)))) ?_; clear HF; intro a HF
    obtain ⟨gA2, oA2, rfl, _⟩ := hr2.some_at (Nat.lt_of_le_of_lt (Nat.zero_le _) (show k < n from hk26)) (by decide)
    refine ay HF HS 11 rfl rfl rfl (v := vP gA2 (oA2 + k * 1)) ((Yl.indexAddr (ad := ⟨gA2, oA2, none⟩) (y := k) (sz := 1) rfl rfl rfl (hk26) (by kernel_rfl)).as (by rw [Addr.add_mid])) ?_; clear HF; intro a HF
    refine ay HF HS 12 rfl rfl rfl (v := vB x) (Yl.load1 rfl rfl (by kernel_rfl) (fun _ h => (h.old hr2).oneAt1 (k := k) (map_at (F := B8) (k := k) (x := x) (hx1)))) ?_; clear HF; intro a HF
    refine any_pure HF (fun _ => HS) (i := 13) rfl rfl (d := 36) rfl (by decide) (by kernel_rfl) (fun _ _ _ h => h) (v := .bool ((x : Int) == (x : Int))) (fun _ => Yl.pure (by kernel_rfl)) ?_; clear HF; intro a HF
    replace HF := HF.as (t := 36) (u := .bool true) rfl (by simp)
    refine ap HF (fun _ => HS) [14, 15, 16, 17, 18] #[true, true, true, true, true, true, true, true, true, true, true, true, true, true, true, true, true, true, true, false, false, false, false, false, false, false, false, false, false, false, false, false, false, false, false] [(41, .slice (some ⟨gA2, oA2, none⟩) n c2), (40, vI k), (39, .bool false), (38, .bool false), (37, .bool false)] ?_; clear HF; intro a HF
    refine ay HF HS 19 rfl rfl rfl (Yl.len rfl rfl (by kernel_rfl)) ?_; clear HF; intro a HF
    refine any_pure HF (fun _ => HS) (i := 20) rfl rfl (d := 43) rfl (by decide) (by kernel_rfl) (fun _ _ _ h => h) (v := .bool (decide ((k : Int) ≥ (n : Int)))) (fun _ => Yl.pure (by kernel_rfl)) ?_; clear HF; intro a HF
    replace HF := HF.as (t := 43) (u := .bool false) rfl (by rw [decide_eq_false (by omega)])
    refine ap HF (fun _ => HS) [21, 22, 23, 24, 25, 26, 27, 28, 29, 30, 31, 32, 33, 34] #[true, true, true, true, true, true, true, true, true, true, true, true, true, true, true, true, true, true, true, true, true, true, true, true, true, true, true, true, true, true, true, true, true, true, true] [(57, .bool false), (56, .bool false), (55, undef), (54, undef), (53, undef), (52, undef), (51, undef), (50, undef), (49, undef), (48, undef), (47, undef), (46, undef), (45, undef), (44, .bool false)] ?_; clear HF; intro a HF
    refine any_done (by kernel_rfl) ?_
    replace HF := HF.to [(57, .bool false), (20, .bool true), (6, vI k), (5, .slice (some ⟨gA, oA, none⟩) (n + 12) c), (11, .bool false), (4, .bool false), (0, .slice (some ⟨gA, oA, none⟩) n c), (1, .slice (some ⟨gA2, oA2, none⟩) n c2)]
    exact ⟨HF.sub (by kernel_rfl), HM.picks [] (by decide) rfl⟩
   ·have HF := HF.on 27 hb27
    have hk26 : n ≤ k := by have := of_decide_eq_false hb27; omega
    have hx3 := (lent_at hln hk20).2 hk26
    refine ap HF (fun _ => HS) [5, 6, 7, 8, 9, 10, 11, 12, 13, 14, 15, 16, 17, 18] #[true, true, true, true, true, true, true, true, true, true, true, true, true, true, true, true, true, true, true, false, false, false, false, false, false, false, false, false, false, false, false, false, false, false, false] [(41, .slice A2 n c2), (40, vI k), (39, .bool false), (38, .bool false), (37, undef), (36, undef), (35, undef), (34, undef), (33, undef), (32, undef), (31, undef), (30, undef), (29, undef), (28, undef)] ?_; clear HF; intro a HF
    refine ay HF HS 19 rfl rfl rfl (Yl.len rfl rfl (by kernel_rfl)) ?_; clear HF; intro a HF
    refine any_pure HF (fun _ => HS) (i := 20) rfl rfl (d := 43) rfl (by decide) (by kernel_rfl) (fun _ _ _ h => h) (v := .bool (decide ((k : Int) ≥ (n : Int)))) (fun _ => Yl.pure (by kernel_rfl)) ?_; clear HF; intro a HF
    replace HF := HF.as (t := 43) (u := .bool true) rfl (by rw [decide_eq_true (by omega)])
    refine ap HF (fun _ => HS) [21, 22, 23, 26, 27] #[true, true, true, true, true, true, true, true, true, true, true, true, true, true, true, true, true, true, true, true, true, true, true, true, false, false, true, true, false, false, false, false, false, false, false] [(50, .slice A2 n c2), (49, vI k), (46, vI k), (45, .slice A (n + 12) c), (44, .bool true)] ?_; clear HF; intro a HF
    obtain ⟨gA, oA, rfl, _⟩ := hr.some_at (Nat.lt_of_le_of_lt (Nat.zero_le _) (show k < (n + 12) from hk20)) (by decide)
    refine ay HF HS 24 rfl rfl rfl (v := vP gA (oA + k * 1)) ((Yl.indexAddr (ad := ⟨gA, oA, none⟩) (y := k) (sz := 1) rfl rfl rfl (hk20) (by kernel_rfl)).as (by rw [Addr.add_mid])) ?_; clear HF; intro a HF
    refine ay HF HS 25 rfl rfl rfl (v := vB (markB (k - n))) (Yl.load1 rfl rfl (by kernel_rfl) (fun _ h => (h.old hr).oneAt1 (k := k) (map_at (F := B8) (k := k) (x := (markB (k - n))) (hx3)))) ?_; clear HF; intro a HF
    refine ay HF HS 28 rfl rfl rfl (Yl.len rfl rfl (by kernel_rfl)) ?_; clear HF; intro a HF
    refine any_pure HF (fun _ => HS) (i := 29) rfl rfl (d := 52) rfl (by decide) (by kernel_rfl) (fun _ _ _ h => h) (v := vI (IntKind.i64.wrap ((k : Int) - (n : Int)))) (fun _ => Yl.pure (by kernel_rfl)) ?_; clear HF; intro a HF
    replace HF := HF.as (t := 52) (u := vI (k - n : Nat)) rfl (by rw [IntWalk.i64_in _ (by omega)]; congr 1; omega)
    refine any_all [30] (by kernel_rfl) rfl ?_
    refine all_cons ?_ all_nil
    refine any_op HF (i := 30) rfl rfl ?_
    refine e_call HF (vs := [vI 1, vI (k - n : Nat)]) rfl (by kernel_rfl) (by kernel_rfl) rfl (by decide) (markByte_any (k - n) (by omega) _) ?_
    rintro _ w53 ⟨rfl, hbw⟩
    refine ⟨_, rfl, ?_⟩
    replace HM := HM.call hbw
    clear HF; intro a HF
    refine keepS (HM.picks [] (by decide) rfl) (fun HS => ?_)
    refine any_pure HF (fun _ => HS) (i := 31) rfl rfl (d := 54) rfl (by decide) (by kernel_rfl) (fun _ _ _ h => h) (v := .bool (((markB (k - n)) : Int) == (markB (k - n) : Int))) (fun _ => Yl.pure (by kernel_rfl)) ?_; clear HF; intro a HF
    replace HF := HF.as (t := 54) (u := .bool true) rfl (by simp)
    refine ap HF (fun _ => HS) [32, 33, 34] #[true, true, true, true, true, true, true, true, true, true, true, true, true, true, true, true, true, true, true, true, true, true, true, true, true, true, true, true, true, true, true, true, true, true, true] [(57, .bool false), (56, .bool false), (55, .bool false)] ?_; clear HF; intro a HF
    refine any_done (by kernel_rfl) ?_
    replace HF := HF.to [(57, .bool false), (20, .bool true), (6, vI k), (5, .slice (some ⟨gA, oA, none⟩) (n + 12) c), (11, .bool false), (4, .bool false), (0, .slice (some ⟨gA, oA, none⟩) n c), (1, .slice A2 n c2)]
    exact ⟨HF.sub (by kernel_rfl), HM.picks [] (by decide) rfl⟩
  clear HF HM; rintro a w7 ⟨HF, HM⟩
  refine cond_false HF rfl (wp_skip (from_start ?_))
  refine fp HF 2 0 [(22, vI (IntKind.i64.wrap ((k : Int) + 1))), (21, vI k)] ?_; clear HF; intro a HF
  replace HF := HF.as (t := 22) (u := vI (k + 1 : Nat)) rfl (by rw [IntWalk.i64_in _ (by omega)]; simp)
  refine fp HF 1 2 [(6, vI (k + 1 : Nat))] ?_; clear HF; intro a HF
  refine from_done rfl ?_
  exact ⟨_, (by omega), k + 1, by omega, rfl, HF.sub (by kernel_rfl), HM.picks [] (by decide) rfl⟩
 ·have HF := HF.on 20 hb20
  refine cond_false HF rfl (wp_exit (wp_seq (from_start ?_)))
  refine fp HF 1 0 [(4, .bool true)] ?_; clear HF; intro a HF
  refine from_done rfl ?_
  refine wp_ret ?_
  exact ret1 rfl HF (.tmp HF rfl) (⟨rfl, HM.below⟩)
end Go.Proofs.YtnakabnmjnfpcaaDoor

namespace Go.Proofs.YtnakabnmjnfpcaaDoor
open Go.RowKit
theorem chainCpu {cpu : Nat} : ∀ (l : List Ev) (p : Option Ev) (b : Bs), Chain cpu p b l → ∀ e ∈ l, e.cpu = cpu
  | [], _, _, _, e, he => by cases he
  | x :: r, p, b, h, e, he => by
    obtain ⟨h1, h2, h3, h4⟩ := h
    rcases List.mem_cons.1 he with rfl | he
    · exact h2
    · exact chainCpu r (some x) x.at h4 e he
theorem fits_two {b : Bk} (h : b.kind = 2) : b.fits = decide (1 ≤ b.next ∧ b.next ≤ 281474976710657 ∧ b.cpu = 0 ∧ b.lost = 0 ∧ b.evs.length = 0) := by
  unfold Bk.fits; rw [if_neg (by omega), if_pos h]; rfl
theorem fits_bad {b : Bk} (h2 : b.kind ≠ 2) (h : b.kind ≠ 1 ∨ 63 < b.cpu ∨ b.lost < 0 ∨ 281474976710656 < b.lost ∨ b.next ≠ 0 ∨ (b.lost = 0 ∧ b.evs.length = 0)) : b.fits = false := by
  unfold Bk.fits
  by_cases h1 : b.kind = 1
  · rw [if_pos h1]
    unfold Bk.fitsE
    rw [decide_eq_false_iff_not]
    rintro ⟨a1, a2, a3, a4, a5, a6⟩
    rcases h with h | h | h | h | h | ⟨h, h'⟩
    · exact h h1
    · omega
    · omega
    · omega
    · exact h a5
    · rw [headOk_nil h', decide_eq_true_eq] at a6
      omega
  · rw [if_neg h1, if_neg h2]
theorem fits_cpu {b : Bk} (hok : b.Ok) (h2 : b.kind ≠ 2) {k : Nat} (hk : k < b.evs.length) (h : (b.evs.getD k Ev.zero).cpu ≠ b.cpu) : b.fits = false := by
  rw [Bool.eq_false_iff]
  intro hf
  obtain ⟨h1, hE⟩ := fits_evs hf h2
  obtain ⟨e, r, g⟩ := fits_row hok hE (by omega)
  exact h (chainCpu _ _ _ g.chain _ (getD_mem Ev.zero hk))
theorem fits_rows {b : Bk} (h1 : b.kind = 1) (h2 : b.cpu ≤ 63) (h3 : 0 ≤ b.lost) (h4 : b.lost ≤ 281474976710656) (h5 : b.next = 0) (h6 : ¬ (b.lost = 0 ∧ b.evs.length = 0)) (hall : ∀ k, k < b.evs.length → (b.evs.getD k Ev.zero).cpu = b.cpu) :
    b.fits = decide ((rowR b.evs).2 = 0) := by
  have hh : b.headOk = true := by
    by_cases h : b.evs.length = 0
    · rw [headOk_nil h, decide_eq_true_eq]; omega
    · rw [headOk_cons h, decide_eq_true_eq]; exact hall 0 (by omega)
  unfold Bk.fits
  rw [if_pos h1]
  unfold Bk.fitsE
  rw [Bool.eq_iff_iff, decide_eq_true_eq, decide_eq_true_eq]
  exact ⟨fun h => h.1, fun h => ⟨h, by omega, h3, h4, h5, hh⟩⟩
def Bk.upto (b : Bk) (n : Nat) : Bk := ⟨b.kind, b.cpu, b.lost, b.next, b.evs.take n⟩
end Go.Proofs.YtnakabnmjnfpcaaDoor

namespace Go.Proofs.YtnakabnmjnfpcaaDoor
open Go.RowKit
theorem si_rbk : SI Tryd.prog 39 5 := ⟨by kernel_rfl, by kernel_rfl⟩
theorem body_two {b : Bk} (hk : b.kind = 2) : vbytes b.next.toNat = b.body := by unfold Bk.body; rw [if_pos hk]
theorem body_none {b : Bk} (hk : b.kind ≠ 2) (h : b.evs.length = 0) : [b.cpu, b.lost.toNat, b.evs.length].flatMap vbytes = b.body := by
  unfold Bk.body
  rw [if_neg hk, if_pos h]
  simp
theorem body_rows {b : Bk} (hk : b.kind ≠ 2) (h : b.evs.length ≠ 0) : [b.cpu, b.lost.toNat, b.evs.length].flatMap vbytes ++ [(b.evs.getD 0 Ev.zero).seq.toNat, (b.evs.getD 0 Ev.zero).time.toNat].flatMap vbytes ++ recs b.base b.evs = b.body := by
  unfold Bk.body
  rw [if_neg hk, if_neg h, base_getD]
  simp
theorem raw10 (b : Bk) : ((#[Value.int .u8 (((b.body.length + 12) % 256 : Nat) : Int), .int .u8 (((b.body.length + 12) / 256 % 256 : Nat) : Int), .int .u8 (((b.body.length + 12) / 65536 % 256 : Nat) : Int), .int .u8 (((b.body.length + 12) / 16777216 % 256 : Nat) : Int), .int .u8 113, .int .u8 116, .int .u8 1, .int .u8 (b.kind : Int)] : Array Value).toList ++ b.body.map B8) = b.raw.map B8 := by
  unfold Bk.raw le4
  rw [Nat.add_comm 12]
  rfl
/-- Numbers read, and what follows: that lies where the bytes lay. -/
def NumsIs (w : World) (A0 : Option Addr) (l : List Nat) (q : List Nat × List Nat) (r : Ending) (w' : World) : Prop :=
  (∃ A c X cX, r = .returned (.tuple #[.slice A q.1.length c, .slice X q.2.length cX]) ∧ w'.ownsRow w.heap.size 44 1 (.slice A q.1.length c) q.1.length (q.1.map U64) ∧ q.1.length ≤ c ∧ (∀ v : World, Rd v v.heap.size 1 A0 l.length (l.map B8) → Rd v v.heap.size 1 X q.2.length (q.2.map B8)) ∧ q.2.length ≤ cX) ∧ Below w.heap.size w w'
theorem numsIs_of {w w' : World} {A0 : Option Addr} {l : List Nat} {q : List Nat × List Nat} {xs rl : List Nat} {A X : Option Addr} {c cX : Nat} (h : q = (xs, rl)) (ho : w'.ownsRow w.heap.size 44 1 (.slice A xs.length c) xs.length (xs.map U64)) (hc : xs.length ≤ c) (hr : ∀ v : World, Rd v v.heap.size 1 A0 l.length (l.map B8) → Rd v v.heap.size 1 X rl.length (rl.map B8)) (hX : rl.length ≤ cX) (hb : Below w.heap.size w w') :
    NumsIs w A0 l q (.returned (.tuple #[.slice A xs.length c, .slice X rl.length cX])) w' := by
  subst h
  exact ⟨⟨A, c, X, cX, rfl, ho, hc, hr, hX⟩, hb⟩
theorem rd_rest {w : World} {B c : Nat} {X : Option Addr} {l : List Nat} (h : Rd w B 1 X l.length (l.map B8)) (hc : l.length ≤ c) : Rd w B 1 (if c = (vread l).2.1 then X else X.map (·.add ((vread l).2.1 * 1))) (tkRest l).length ((tkRest l).map B8) := by
  have h1 := h.midB8 (i := (vread l).2.1) (j := l.length) (vread_len l) (Nat.le_refl _) hc
  rw [List.take_length] at h1
  rw [tkRest_len]
  exact h1
theorem nums_stop {m : Nat} {l xs rl : List Nat} (hj : numsR m l = (xs ++ (numsR (m - xs.length) rl).1, (numsR (m - xs.length) rl).2)) (h : m ≤ xs.length) : numsR m l = (xs, rl) := by
  rw [hj, show m - xs.length = 0 by omega]
  simp [numsR]
theorem nums_bad {m : Nat} {l xs rl : List Nat} (hj : numsR m l = (xs ++ (numsR (m - xs.length) rl).1, (numsR (m - xs.length) rl).2)) (h : xs.length < m) (hb : (vread rl).2.2 ≠ 0) : numsR m l = (xs, rl) := by
  rw [hj, show m - xs.length = (m - xs.length - 1) + 1 by omega, numsR, if_neg hb]
  simp
theorem nums_next {m : Nat} {l xs rl : List Nat} (hj : numsR m l = (xs ++ (numsR (m - xs.length) rl).1, (numsR (m - xs.length) rl).2)) (h : xs.length < m) (hb : (vread rl).2.2 = 0) :
    numsR m l = ((xs ++ [(vread rl).1]) ++ (numsR (m - (xs ++ [(vread rl).1]).length) (tkRest rl)).1, (numsR (m - (xs ++ [(vread rl).1]).length) (tkRest rl)).2) := by
  rw [hj, show m - xs.length = (m - (xs ++ [(vread rl).1]).length) + 1 by rw [List.length_append, List.length_singleton]; omega, numsR, if_pos hb]
  simp
/-- A block read, with events of the call's own. -/
def RBlkIs (w : World) (b : Bk) (r : Ending) (w' : World) : Prop :=
  (∃ A c, r = .returned (.agg (b.cells A c)) ∧ w'.ownsRow w.heap.size 65 11 (.slice A b.evs.length c) b.evs.length (b.evs.flatMap evL) ∧ b.evs.length ≤ c) ∧ Below w.heap.size w w'
theorem rblk_nil {w w' : World} {b : Bk} {k c : Nat} {lo nx : Int} (h : b = ⟨k, c, lo, nx, []⟩) (hb : Below w.heap.size w w') : RBlkIs w b (.returned (.agg #[.int .u8 (k : Int), .int .u8 (c : Int), .int .i64 lo, .int .i64 nx, .slice none 0 0])) w' := by
  subst h
  exact ⟨⟨none, 0, rfl, World.ownsRow_nil _ _ _ _, Nat.le_refl _⟩, hb⟩
theorem rblk_row {w w' : World} {b : Bk} {k c cA : Nat} {lo nx : Int} {es : List Ev} {A : Option Addr} (h : b = ⟨k, c, lo, nx, es⟩) (ho : w'.ownsRow w.heap.size 65 11 (.slice A es.length cA) es.length (es.flatMap evL)) (hc : es.length ≤ cA) (hb : Below w.heap.size w w') : RBlkIs w b (.returned (.agg #[.int .u8 (k : Int), .int .u8 (c : Int), .int .i64 lo, .int .i64 nx, .slice A es.length cA])) w' := by
  subst h
  exact ⟨⟨A, cA, rfl, ho, hc⟩, hb⟩
/-- What the reference's Read returns. -/
def RReadIs (w : World) (q : Bk × Nat × Nat) (r : Ending) (w' : World) : Prop :=
  (∃ A c, r = .returned (.tuple #[.agg (q.1.cells A c), .int .i64 (q.2.1 : Int), .int .i64 (q.2.2 : Int)]) ∧ w'.ownsRow w.heap.size 65 11 (.slice A q.1.evs.length c) q.1.evs.length (q.1.evs.flatMap evL) ∧ q.1.evs.length ≤ c) ∧ Below w.heap.size w w'
theorem rread_bad {w w' : World} {q : Bk × Nat × Nat} {er : Nat} (h : q = (Bk.zero, 0, er)) (hb : Below w.heap.size w w') : RReadIs w q (.returned (.tuple #[.agg #[.int .u8 0, .int .u8 0, .int .i64 0, .int .i64 0, .slice none 0 0], .int .i64 0, .int .i64 (er : Int)])) w' := by
  subst h
  exact ⟨⟨none, 0, rfl, World.ownsRow_nil _ _ _ _, Nat.le_refl _⟩, hb⟩
theorem rread_ok {w w' : World} {q : Bk × Nat × Nat} {b : Bk} {m c : Nat} {A : Option Addr} (h : q = (b, m, 0)) (ho : w'.ownsRow w.heap.size 65 11 (.slice A b.evs.length c) b.evs.length (b.evs.flatMap evL)) (hc : b.evs.length ≤ c) (hb : Below w.heap.size w w') : RReadIs w q (.returned (.tuple #[.agg (b.cells A c), .int .i64 (m : Int), .int .i64 0])) w' := by
  subst h
  exact ⟨⟨A, c, rfl, ho, hc⟩, hb⟩
theorem raw_ne {q : Bk} {l : List Nat} (he : q.err = 0) : (!decide (q.raw = l)) = decide (q.err ≠ 0 ∨ q.raw ≠ l) := by
  rw [Bool.eq_iff_iff, Bool.not_eq_true', decide_eq_false_iff_not, decide_eq_true_eq]
  exact ⟨.inr, fun h => h.elim (fun h => absurd he h) id⟩
theorem refB_len {l : List Nat} (h : (lenR l).2 ≠ 0) : refB l = (Bk.zero, 0, (lenR l).2) := by unfold refB; rw [if_pos h]
theorem refB_none {l L : List Nat} {e : Nat} (h : (lenR l).2 = 0) (hL : L = l.take (lenR l).1) (hb : refOf L = (none, e)) : refB l = (Bk.zero, 0, e) := by unfold refB; rw [if_neg (by omega), ← hL, hb]
theorem refB_some {l L : List Nat} {b : Bk} {e : Nat} (h : (lenR l).2 = 0) (hL : L = l.take (lenR l).1) (hb : refOf L = (some b, e)) : refB l = (b, (lenR l).1, 0) := by unfold refB; rw [if_neg (by omega), ← hL, hb]
theorem loose_end {k : Nat} {l : List Nat} {n : Int} (h : k = 2) (hn : n = if (numsR 1 l).1.length = 1 then wrap64 ((numsR 1 l).1.getD 0 0 : Int) else 0) : loose k l = ⟨k, 0, 0, n, []⟩ := by
  subst h; subst hn; unfold loose looseEnd; rw [if_pos rfl]
theorem loose_few {k : Nat} {l : List Nat} (h : k ≠ 2) (hn : (numsR 3 l).1.length < 3) : loose k l = ⟨k, 0, 0, 0, []⟩ := by
  unfold loose looseEvs; rw [if_neg h, if_pos hn]
theorem loose_evs {k : Nat} {l : List Nat} {es : List Ev} (h : k ≠ 2) (hn : ¬ (numsR 3 l).1.length < 3) (he : es = looseRow ((numsR 3 l).1.getD 0 0 % 256) ((numsR 3 l).1.getD 2 0) (numsR 3 l).2) :
    loose k l = ⟨k, (numsR 3 l).1.getD 0 0 % 256, wrap64 ((numsR 3 l).1.getD 1 0 : Int), 0, es⟩ := by
  subst he; unfold loose looseEvs; rw [if_neg h, if_neg hn]
theorem looseRow_none {cpu n : Nat} {l : List Nat} (h : ¬ (0 < n ∧ n ≤ 4096 ∧ (numsR 2 l).1.length = 2)) : [] = looseRow cpu n l := by unfold looseRow; rw [if_neg h]
theorem looseRow_some {cpu n : Nat} {l : List Nat} (h : 0 < n ∧ n ≤ 4096 ∧ (numsR 2 l).1.length = 2) : (readR ⟨wrap64 ((numsR 2 l).1.getD 0 0 : Int), wrap64 ((numsR 2 l).1.getD 1 0 : Int)⟩ cpu n (numsR 2 l).2).1 = looseRow cpu n l := by unfold looseRow; rw [if_pos h]
theorem readGo_few (cpu : Nat) : ∀ (n : Nat) (b : Bs) (p : Option Ev) (l : List Nat), (readGo cpu n b p l).1.length ≤ n
  | 0, _, _, _ => Nat.le_refl _
  | n + 1, b, p, l => by
    rw [readGo]
    split
    · exact Nat.zero_le _
    · split
      · exact Nat.zero_le _
      · split
        · exact Nat.zero_le _
        · show (_ :: _).length ≤ _
          rw [List.length_cons]
          exact Nat.succ_le_succ (readGo_few cpu n _ _ _)
theorem readR_few (b : Bs) (cpu n : Nat) (l : List Nat) : (readR b cpu (n : Int) l).1.length ≤ n := by
  unfold readR
  split
  · exact Nat.zero_le _
  · split
    · exact Nat.zero_le _
    · exact readGo_few cpu _ _ _ _
theorem numsR_len : ∀ (m : Nat) (l : List Nat), (numsR m l).2.length ≤ l.length
  | 0, l => Nat.le_refl _
  | m + 1, l => by
    rw [numsR]
    split
    · exact Nat.le_trans (numsR_len m _) (tkRest_le l)
    · exact Nat.le_refl _
end Go.Proofs.YtnakabnmjnfpcaaDoor

namespace Go.Proofs.YtnakabnmjnfpcaaDoor
open Go.RowKit
/-- The first k changed. -/
def updUp {α : Type} (f : α → α) (l : List α) (k : Nat) : List α := (l.take k).map f ++ l.drop k
theorem updUp_len {α : Type} (f : α → α) (l : List α) (k : Nat) : (updUp f l k).length = l.length := by
  unfold updUp
  rw [List.length_append, List.length_map, List.length_take, List.length_drop]
  omega
theorem updUp_zero {α : Type} (f : α → α) (l : List α) : updUp f l 0 = l := by simp [updUp]
theorem updUp_at {α : Type} (f : α → α) (l : List α) {k : Nat} (d : α) (h : k < l.length) : (updUp f l k)[k]? = some (l.getD k d) := by
  unfold updUp
  rw [List.getElem?_append_right (by rw [List.length_map, List.length_take]; omega), List.length_map, List.length_take, Nat.min_eq_left (by omega), Nat.sub_self, List.getElem?_drop, List.getD_eq_getElem?_getD, Nat.add_zero, List.getElem?_eq_getElem h]
  rfl
theorem updUp_succ {α : Type} (f : α → α) (l : List α) {k : Nat} (d : α) (h : k < l.length) : (updUp f l k).set k (f (l.getD k d)) = updUp f l (k + 1) := by
  unfold updUp
  have hk : (l.take k).length = k := by rw [List.length_take]; omega
  have hd : l.drop k = l.getD k d :: l.drop (k + 1) := by
    rw [List.getD_eq_getElem?_getD, List.getElem?_eq_getElem h]
    exact List.drop_eq_getElem_cons h
  have ht : l.take (k + 1) = l.take k ++ [l.getD k d] := by
    rw [List.take_succ_eq_append_getElem h, List.getD_eq_getElem?_getD, List.getElem?_eq_getElem h]
    rfl
  rw [List.set_append, if_neg (by rw [List.length_map]; omega), List.length_map, hk, Nat.sub_self, hd, List.set_cons_zero, ht, List.map_append, List.append_assoc]
  rfl
def spoilE (e : Ev) : Ev := { e with seq := -1 }
theorem spoil_cell (e : Ev) : evL (spoilE e) = (evL e).set 0 (.int .i64 (-1)) := rfl
theorem evTake_succ {l : List Ev} {k : Nat} (h : k < l.length) : (l.take (k + 1)).flatMap evL = (l.take k).flatMap evL ++ evL (l.getD k Ev.zero) := by
  rw [List.take_succ_eq_append_getElem h, List.getD_eq_getElem?_getD, List.getElem?_eq_getElem h, List.flatMap_append]
  simp
end Go.Proofs.YtnakabnmjnfpcaaDoor

set_option linter.all false
namespace Go.Proofs.YtnakabnmjnfpcaaDoor
open Go.RowKit
set_option maxRecDepth 100000 in
set_option maxHeartbeats 4000000 in
theorem right07_any (b : Bs) (w : World) : Calls Tryd.prog 68 #[.agg b.cells] w (BoolPost w b.right) := by
 refine calls_enter (vs := [.agg b.cells]) Tryd.func68 rfl rfl (by kernel_rfl) (σ0 := [(0, .agg b.cells)]) rfl ?_
 intro a HF
 have HM := Mem.start w
 refine wp_seq (from_start ?_)
 refine from_op HF (i := 0) rfl rfl ?_
 refine e_box HF HM (cs := b.cells) rfl rfl rfl rfl (by decide) ?_
 clear HF HM; intro a w1 g1 HF HM
 refine fp HF 1 1 [(2, .bool false)] ?_; clear HF; intro a HF
 refine from_done rfl ?_
 refine wp_seq (from_start ?_)
 refine fp HF 1 0 [(3, vP g1 0)] ?_; clear HF; intro a HF
 refine fy HF HM 1 rfl rfl rfl (v := vI b.seq) (Yl.load1 rfl rfl (by kernel_rfl) (fun _ h => h.cell (i := 0) rfl (rfl))) ?_; clear HF; intro a HF
 refine fp HF 2 2 [(6, .bool (decide ((b.seq : Int) ≥ (1 : Int)))), (5, .bool (decide ((b.seq : Int) ≥ (1 : Int))))] ?_; clear HF; intro a HF
 rcases Bool.eq_false_or_eq_true (decide ((b.seq : Int) ≥ (1 : Int))) with hb6 | hb6
 ·have HF := HF.on 6 hb6
  refine fp HF 1 4 [(7, vP g1 0)] ?_; clear HF; intro a HF
  refine fy HF HM 5 rfl rfl rfl (v := vI b.seq) (Yl.load1 rfl rfl (by kernel_rfl) (fun _ h => h.cell (i := 0) rfl (rfl))) ?_; clear HF; intro a HF
  refine fp HF 3 6 [(11, .bool (decide ((b.seq : Int) ≤ (281474976710656 : Int)))), (10, .bool (decide ((b.seq : Int) ≤ (281474976710656 : Int)))), (9, .bool (decide ((b.seq : Int) ≤ (281474976710656 : Int))))] ?_; clear HF; intro a HF
  rcases Bool.eq_false_or_eq_true (decide ((b.seq : Int) ≤ (281474976710656 : Int))) with hb11 | hb11
  ·have HF := HF.on 11 hb11
   refine fp HF 1 9 [(12, vP g1 1)] ?_; clear HF; intro a HF
   refine fy HF HM 10 rfl rfl rfl (v := vI b.time) (Yl.load1 rfl rfl (by kernel_rfl) (fun _ h => h.cell (i := 0) rfl (rfl))) ?_; clear HF; intro a HF
   refine fp HF 3 11 [(16, .bool (decide ((b.time : Int) ≥ (0 : Int)))), (15, .bool (decide ((b.time : Int) ≥ (0 : Int)))), (14, .bool (decide ((b.time : Int) ≥ (0 : Int))))] ?_; clear HF; intro a HF
   rcases Bool.eq_false_or_eq_true (decide ((b.time : Int) ≥ (0 : Int))) with hb16 | hb16
   ·have HF := HF.on 16 hb16
    refine fp HF 1 14 [(17, vP g1 1)] ?_; clear HF; intro a HF
    refine fy HF HM 15 rfl rfl rfl (v := vI b.time) (Yl.load1 rfl rfl (by kernel_rfl) (fun _ h => h.cell (i := 0) rfl (rfl))) ?_; clear HF; intro a HF
    refine fp HF 3 16 [(2, .bool (decide ((b.time : Int) ≤ (281474976710656 : Int)))), (20, .bool (decide ((b.time : Int) ≤ (281474976710656 : Int)))), (19, .bool (decide ((b.time : Int) ≤ (281474976710656 : Int))))] ?_; clear HF; intro a HF
    refine from_done rfl ?_
    replace HF := HF.to [(2, .bool (decide ((b.time : Int) ≤ (281474976710656 : Int))))]
    replace HM := HM.picks (fs' := []) [] (by decide) rfl
    refine wp_ret ?_
    exact ret1 rfl HF (.tmp HF rfl) (⟨congrArg (fun b => Ending.returned (.bool b)) (by unfold Bs.right; rw [Bool.eq_iff_iff]; (try simp at hb6); (try simp at hb11); (try simp at hb16); (try simp); (try omega)), HM.below⟩)
   ·have HF := HF.on 16 hb16
    refine fp HF 5 14 [(2, .bool false), (20, .bool false), (19, undef), (18, undef), (17, undef)] ?_; clear HF; intro a HF
    refine from_done rfl ?_
    replace HF := HF.to [(2, .bool false)]
    replace HM := HM.picks (fs' := []) [] (by decide) rfl
    refine wp_ret ?_
    exact ret1 rfl HF (.tmp HF rfl) (⟨congrArg (fun b => Ending.returned (.bool b)) (by unfold Bs.right; rw [Bool.eq_iff_iff]; (try simp at hb6); (try simp at hb11); (try simp at hb16); (try simp); (try omega)), HM.below⟩)
  ·have HF := HF.on 11 hb11
   refine fp HF 10 9 [(2, .bool false), (20, .bool false), (19, undef), (18, undef), (17, undef), (16, .bool false), (15, .bool false), (14, undef), (13, undef), (12, undef)] ?_; clear HF; intro a HF
   refine from_done rfl ?_
   replace HF := HF.to [(2, .bool false)]
   replace HM := HM.picks (fs' := []) [] (by decide) rfl
   refine wp_ret ?_
   exact ret1 rfl HF (.tmp HF rfl) (⟨congrArg (fun b => Ending.returned (.bool b)) (by unfold Bs.right; rw [Bool.eq_iff_iff]; (try simp at hb6); (try simp at hb11); (try simp); (try omega)), HM.below⟩)
 ·have HF := HF.on 6 hb6
  refine fp HF 15 4 [(2, .bool false), (20, .bool false), (19, undef), (18, undef), (17, undef), (16, .bool false), (15, .bool false), (14, undef), (13, undef), (12, undef), (11, .bool false), (10, .bool false), (9, undef), (8, undef), (7, undef)] ?_; clear HF; intro a HF
  refine from_done rfl ?_
  replace HF := HF.to [(2, .bool false)]
  replace HM := HM.picks (fs' := []) [] (by decide) rfl
  refine wp_ret ?_
  exact ret1 rfl HF (.tmp HF rfl) (⟨congrArg (fun b => Ending.returned (.bool b)) (by unfold Bs.right; rw [Bool.eq_iff_iff]; (try simp at hb6); (try simp); (try omega)), HM.below⟩)
end Go.Proofs.YtnakabnmjnfpcaaDoor

set_option linter.all false
namespace Go.Proofs.YtnakabnmjnfpcaaDoor
open Go.RowKit
theorem u64_sub {x y : Int} (h : y ≤ x) (h2 : x - y < 9223372036854775808) : IntKind.u64.wrap (IntKind.i64.wrap (x - y)) = ((x - y).toNat : Int) := by
  rw [IntWalk.i64_in _ (by omega), IntKind.wrap_u64]; omega
theorem putErr_good {b : Bs} {e : Ev} (h : e.check = 0) (h2 : b.right = true ∧ b.behind e = true) : putErr b e = 0 := by unfold putErr; rw [if_neg (by simp [h]), if_pos h2]
theorem putOut_good {b : Bs} {e : Ev} (h : e.check = 0) (h2 : b.right = true ∧ b.behind e = true) : putOut b e = recBytes b e := by unfold putOut; rw [if_pos (putErr_good h h2)]
theorem putOut_bad {b : Bs} {e : Ev} (h : putErr b e ≠ 0) : putOut b e = [] := by unfold putOut; rw [if_neg h]
theorem vals_64 {e : Ev} (he : e.Ok) : ∀ x ∈ e.vals, x < 18446744073709551616 := by
  intro x hx
  unfold Ev.vals at hx
  obtain ⟨i, _, rfl⟩ := List.mem_map.1 hx
  have h1 := he.task.2; have h2 := he.group.2; have h3 := he.to.2; have h4 := he.weight.2; have h5 := he.ticks.2; have h6 := he.mask; have h7 := he.got.2
  unfold Ev.fld
  split <;> omega
set_option maxRecDepth 100000 in
set_option maxHeartbeats 4000000 in
theorem put07_any (b : Bs) (e : Ev) (he : e.Ok) (w : World) : Calls Tryd.prog 70 #[.agg b.cells, .agg e.cells] w (BytesIs w (putErr b e) (putOut b e)) := by
 refine calls_enter (vs := [.agg b.cells, .agg e.cells]) Tryd.func70 rfl rfl (by kernel_rfl) (σ0 := [(0, .agg b.cells), (1, .agg e.cells)]) rfl ?_
 intro a HF
 have HM := Mem.start w
 refine wp_seq (from_start ?_)
 refine from_op HF (i := 0) rfl rfl ?_
 refine e_box HF HM (cs := b.cells) rfl rfl rfl rfl (by decide) ?_
 clear HF HM; intro a w2 g2 HF HM
 refine from_op HF (i := 1) rfl rfl ?_
 refine e_box HF HM (cs := e.cells) rfl rfl rfl rfl (by decide) ?_
 clear HF HM; intro a w3 g3 HF HM
 refine fp HF 2 2 [(5, vI 0), (4, .slice none 0 0)] ?_; clear HF; intro a HF
 refine from_done rfl ?_
 refine wp_seq (from_start ?_)
 refine fy HF HM 0 rfl rfl rfl (v := .agg e.cells) (Yl.loadS rfl rfl ⟨(by kernel_rfl), (by kernel_rfl)⟩ rfl (fun _ h => range_of_block (h.blk (i := 0) rfl))) ?_; clear HF; intro a HF
 refine from_op HF (i := 1) rfl rfl ?_
 refine e_call HF (vs := [.agg e.cells]) rfl (by kernel_rfl) (by kernel_rfl) rfl (by decide) (values06_any e he _) ?_
 rintro _ w12 ⟨⟨v, rfl, ho⟩, hbw⟩
 obtain ⟨A12, c12, rfl, hc12⟩ := own_slice ho
 refine ⟨_, rfl, ?_⟩
 replace HM := HM.callRow hbw ho
 clear HF; intro a HF
 refine fp HF 5 2 [(7, vI e.check), (6, .slice A12 e.outVals.length c12), (14, vI e.check), (13, .slice A12 e.outVals.length c12), (10, .tuple #[.slice A12 e.outVals.length c12, vI e.check])] ?_; clear HF; intro a HF
 refine from_done rfl ?_
 refine wp_seq (wp_seq (from_start ?_))
 refine fp HF 2 0 [(16, .bool ((e.check : Int) != (0 : Int))), (15, vI e.check)] ?_; clear HF; intro a HF
 refine from_done rfl ?_
 rcases Bool.eq_false_or_eq_true ((e.check : Int) != (0 : Int)) with hb16 | hb16
 ·have HF := HF.on 16 hb16
  have hbad : e.check ≠ 0 := by rw [bne_iff_ne] at hb16; omega
  refine cond_true HF rfl (wp_seq (from_start ?_))
  refine fp HF 3 0 [(5, vI e.check), (4, .slice none 0 0), (17, vI e.check)] ?_; clear HF; intro a HF
  refine from_done rfl ?_
  refine wp_ret ?_
  exact ret2 rfl HF (.tmp HF rfl) (.tmp HF rfl) (⟨⟨none, 0, by rw [putOut_bad (by rw [show putErr b e = e.check from by unfold putErr; rw [if_pos hbad]]; exact hbad), show putErr b e = e.check from by unfold putErr; rw [if_pos hbad]]; rfl, by rw [putOut_bad (by rw [show putErr b e = e.check from by unfold putErr; rw [if_pos hbad]]; exact hbad)]; exact World.ownsRow_nil _ _ _ _, by rw [putOut_bad (by rw [show putErr b e = e.check from by unfold putErr; rw [if_pos hbad]]; exact hbad)]; exact Nat.le_refl _⟩, HM.below⟩)
 ·have HF := HF.on 16 hb16
  have hgood : e.check = 0 := by rw [bne_eq_false_iff_eq] at hb16; omega
  have hov : e.outVals = e.vals := by unfold Ev.outVals; rw [if_pos hgood]
  obtain ⟨_, _, _, q1, q2, q3, q4⟩ := ok_vals hgood
  have hvl := vals_len e
  rw [← hov] at hvl
  have hx64 := vals_64 he
  refine cond_false HF rfl (wp_skip (wp_seq ?_))
  refine cut_seq (fun aS wS => Fr aS 70 [] [(34, .bool (!(b.right && b.behind e))), (16, .bool false), (7, vI e.check), (6, .slice A12 e.outVals.length c12), (5, vI 0), (4, .slice none 0 0), (3, vP g3 0), (2, vP g2 0)] ∧ Mem w wS [.row (.slice A12 e.outVals.length c12) e.outVals.length (e.outVals.map U64) 44 1, .blk g3 e.cells 65, .blk g2 b.cells 89]) ?_ ?_
  ·
   refine from_start ?_
   refine fy HF HM 0 rfl rfl rfl (v := .agg b.cells) (Yl.loadS rfl rfl ⟨(by kernel_rfl), (by kernel_rfl)⟩ rfl (fun _ h => range_of_block (h.blk (i := 2) rfl))) ?_; clear HF; intro a HF
   refine from_op HF (i := 1) rfl rfl ?_
   refine e_call HF (vs := [.agg b.cells]) rfl (by kernel_rfl) (by kernel_rfl) rfl (by decide) (right07_any b _) ?_
   rintro _ w19 ⟨rfl, hbw⟩
   refine ⟨_, rfl, ?_⟩
   replace HM := HM.call hbw
   clear HF; intro a HF
   refine fp HF 2 2 [(21, .bool (!b.right)), (20, .bool (!b.right))] ?_; clear HF; intro a HF
   rcases Bool.eq_false_or_eq_true (!b.right) with hb21 | hb21
   ·have HF := HF.on 21 hb21
    refine fp HF 13 4 [(34, .bool true), (33, undef), (32, undef), (31, undef), (30, undef), (29, undef), (28, .bool true), (27, .bool true), (26, undef), (25, undef), (24, undef), (23, undef), (22, undef)] ?_; clear HF; intro a HF
    refine from_done rfl ?_
    replace HF := HF.to [(34, .bool true), (16, .bool false), (7, vI e.check), (6, .slice A12 e.outVals.length c12), (5, vI 0), (4, .slice none 0 0), (3, vP g3 0), (2, vP g2 0)]
    have HF := HF.as (t := 34) (u := .bool (!(b.right && b.behind e))) rfl (congrArg Value.bool (by unfold Bs.behind; (try simp at hb16); (try simp at hb21); rw [Bool.eq_iff_iff]; (try simp [hb16, hb21]); (try omega)))
    exact ⟨HF.sub (by kernel_rfl), HM.picks [0, 1, 2] (by decide) rfl⟩
   ·have HF := HF.on 21 hb21
    refine fp HF 1 4 [(22, vP g3 0)] ?_; clear HF; intro a HF
    refine fy HF HM 5 rfl rfl rfl (v := vI e.seq) (Yl.load1 rfl rfl (by kernel_rfl) (fun _ h => h.cell (i := 1) rfl (rfl))) ?_; clear HF; intro a HF
    refine fp HF 1 6 [(24, vP g2 0)] ?_; clear HF; intro a HF
    refine fy HF HM 7 rfl rfl rfl (v := vI b.seq) (Yl.load1 rfl rfl (by kernel_rfl) (fun _ h => h.cell (i := 2) rfl (rfl))) ?_; clear HF; intro a HF
    refine fp HF 3 8 [(28, .bool (decide ((e.seq : Int) < (b.seq : Int)))), (27, .bool (decide ((e.seq : Int) < (b.seq : Int)))), (26, .bool (decide ((e.seq : Int) < (b.seq : Int))))] ?_; clear HF; intro a HF
    rcases Bool.eq_false_or_eq_true (decide ((e.seq : Int) < (b.seq : Int))) with hb28 | hb28
    ·have HF := HF.on 28 hb28
     refine fp HF 6 11 [(34, .bool true), (33, undef), (32, undef), (31, undef), (30, undef), (29, undef)] ?_; clear HF; intro a HF
     refine from_done rfl ?_
     replace HF := HF.to [(34, .bool true), (16, .bool false), (7, vI e.check), (6, .slice A12 e.outVals.length c12), (5, vI 0), (4, .slice none 0 0), (3, vP g3 0), (2, vP g2 0)]
     have HF := HF.as (t := 34) (u := .bool (!(b.right && b.behind e))) rfl (congrArg Value.bool (by unfold Bs.behind; (try simp at hb16); (try simp at hb21); (try simp at hb28); rw [Bool.eq_iff_iff]; (try simp [hb16, hb21, hb28]); (try omega)))
     exact ⟨HF.sub (by kernel_rfl), HM.picks [0, 1, 2] (by decide) rfl⟩
    ·have HF := HF.on 28 hb28
     refine fp HF 1 11 [(29, vP g3 1)] ?_; clear HF; intro a HF
     refine fy HF HM 12 rfl rfl rfl (v := vI e.time) (Yl.load1 rfl rfl (by kernel_rfl) (fun _ h => h.cell (i := 1) rfl (rfl))) ?_; clear HF; intro a HF
     refine fp HF 1 13 [(31, vP g2 1)] ?_; clear HF; intro a HF
     refine fy HF HM 14 rfl rfl rfl (v := vI b.time) (Yl.load1 rfl rfl (by kernel_rfl) (fun _ h => h.cell (i := 2) rfl (rfl))) ?_; clear HF; intro a HF
     refine fp HF 2 15 [(34, .bool (decide ((e.time : Int) < (b.time : Int)))), (33, .bool (decide ((e.time : Int) < (b.time : Int))))] ?_; clear HF; intro a HF
     refine from_done rfl ?_
     replace HF := HF.to [(34, .bool (decide ((e.time : Int) < (b.time : Int)))), (16, .bool false), (7, vI e.check), (6, .slice A12 e.outVals.length c12), (5, vI 0), (4, .slice none 0 0), (3, vP g3 0), (2, vP g2 0)]
     have HF := HF.as (t := 34) (u := .bool (!(b.right && b.behind e))) rfl (congrArg Value.bool (by unfold Bs.behind; (try simp at hb16); (try simp at hb21); (try simp at hb28); rw [Bool.eq_iff_iff]; (try simp [hb16, hb21, hb28]); (try omega)))
     exact ⟨HF.sub (by kernel_rfl), HM.picks [0, 1, 2] (by decide) rfl⟩
  clear HF HM; rintro a w4 ⟨HF, HM⟩
  rcases Bool.eq_false_or_eq_true (!(b.right && b.behind e)) with hb34 | hb34
  ·have HF := HF.on 34 hb34
   have hrb : ¬ (b.right = true ∧ b.behind e = true) := by intro h; rw [h.1, h.2] at hb34; cases hb34
   refine cond_true HF rfl (wp_seq (from_start ?_))
   refine fp HF 2 0 [(5, vI 70), (4, .slice none 0 0)] ?_; clear HF; intro a HF
   refine from_done rfl ?_
   refine wp_ret ?_
   exact ret2 rfl HF (.tmp HF rfl) (.tmp HF rfl) (⟨⟨none, 0, by rw [putOut_bad (by rw [show putErr b e = 70 from by unfold putErr; rw [if_neg (by simp [hgood]), if_neg hrb]]; decide), show putErr b e = 70 from by unfold putErr; rw [if_neg (by simp [hgood]), if_neg hrb]]; rfl, by rw [putOut_bad (by rw [show putErr b e = 70 from by unfold putErr; rw [if_neg (by simp [hgood]), if_neg hrb]]; decide)]; exact World.ownsRow_nil _ _ _ _, by rw [putOut_bad (by rw [show putErr b e = 70 from by unfold putErr; rw [if_neg (by simp [hgood]), if_neg hrb]]; decide)]; exact Nat.le_refl _⟩, HM.below⟩)
  ·have HF := HF.on 34 hb34
   have hrb : b.right = true ∧ b.behind e = true := by simpa using hb34
   have hbr := hrb.1
   have hbb := hrb.2
   unfold Bs.right at hbr
   unfold Bs.behind at hbb
   simp only [decide_eq_true_eq] at hbr hbb
   refine cond_false HF rfl (wp_skip (wp_seq (from_start ?_)))
   refine fp HF 1 0 [(35, vP g3 3)] ?_; clear HF; intro a HF
   refine fy HF HM 1 rfl rfl rfl (v := vB e.kind) (Yl.load1 rfl rfl (by kernel_rfl) (fun _ h => h.cell (i := 1) rfl (rfl))) ?_; clear HF; intro a HF
   refine from_op HF (i := 2) rfl rfl ?_
   refine e_slice HF HM (vs := [(0, vB e.kind)]) (cs := #[vB e.kind]) rfl ei_u8 (by decide) rfl (by kernel_rfl) rfl (by decide) ?_
   clear HF HM; intro a w37 g37 HF HM
   refine fp HF 1 3 [(8, vS g37 1 1)] ?_; clear HF; intro a HF
   refine from_done rfl ?_
   refine wp_seq (from_start ?_)
   refine fp HF 2 0 [(39, vP g3 0), (38, vS g37 1 1)] ?_; clear HF; intro a HF
   refine fy HF HM 2 rfl rfl rfl (v := vI e.seq) (Yl.load1 rfl rfl (by kernel_rfl) (fun _ h => h.cell (i := 2) rfl (rfl))) ?_; clear HF; intro a HF
   refine fp HF 1 3 [(41, vP g2 0)] ?_; clear HF; intro a HF
   refine fy HF HM 4 rfl rfl rfl (v := vI b.seq) (Yl.load1 rfl rfl (by kernel_rfl) (fun _ h => h.cell (i := 3) rfl (rfl))) ?_; clear HF; intro a HF
   refine fp HF 2 5 [(44, vQ (IntKind.u64.wrap (IntKind.i64.wrap (e.seq - b.seq)))), (43, vI (IntKind.i64.wrap (e.seq - b.seq)))] ?_; clear HF; intro a HF
   replace HF := HF.as (t := 44) (u := vQ ((e.seq - b.seq).toNat)) rfl (by rw [u64_sub (by omega) (by omega)])
   refine from_op HF (i := 7) rfl rfl ?_
   refine e_call HF (vs := [vQ ((e.seq - b.seq).toNat)]) rfl (by kernel_rfl) (by kernel_rfl) rfl (by decide) (write01_any ((e.seq - b.seq).toNat) _ (by omega)) ?_
   rintro _ w45 ⟨v, rfl, ho, hbw⟩
   obtain ⟨A45, c45, rfl, hc45⟩ := own_slice ho
   have hl45 := vbytes_length ((e.seq - b.seq).toNat)
   refine ⟨_, rfl, ?_⟩
   replace HM := HM.callRow hbw ho
   clear HF; intro a HF
   refine from_op HF (i := 8) rfl rfl ?_
   replace HM := HM.blkRow (i := 1) (n := 1) (size := 1) rfl rfl (by decide)
   refine e_append HF HM (i := 1) rfl ei_u8 rfl rfl rfl (news := ((vbytes ((e.seq - b.seq).toNat)).map B8)) (HM.rd (i := 0) rfl) (one_B8 _) (by omega) (by omega) rfl (by decide) ?_
   clear HF HM; intro a w46 A46 c46 HF HM hc46
   refine fp HF 1 9 [(8, .slice A46 (1 + ((vbytes ((e.seq - b.seq).toNat)).length)) c46)] ?_; clear HF; intro a HF
   refine from_done rfl ?_
   replace HM := HM.picks (fs' := [.row (.slice A46 (1 + ((vbytes ((e.seq - b.seq).toNat)).length)) c46) (1 + ((vbytes ((e.seq - b.seq).toNat)).length)) (((#[vB e.kind]).toList) ++ ((vbytes ((e.seq - b.seq).toNat)).map B8)) 5 1, .row (.slice A12 e.outVals.length c12) e.outVals.length (e.outVals.map U64) 44 1, .blk g3 e.cells 65, .blk g2 b.cells 89]) [1, 2, 3, 4] (by decide) rfl
   refine wp_seq (from_start ?_)
   refine fp HF 2 0 [(48, vP g3 1), (47, .slice A46 (1 + ((vbytes ((e.seq - b.seq).toNat)).length)) c46)] ?_; clear HF; intro a HF
   refine fy HF HM 2 rfl rfl rfl (v := vI e.time) (Yl.load1 rfl rfl (by kernel_rfl) (fun _ h => h.cell (i := 2) rfl (rfl))) ?_; clear HF; intro a HF
   refine fp HF 1 3 [(50, vP g2 1)] ?_; clear HF; intro a HF
   refine fy HF HM 4 rfl rfl rfl (v := vI b.time) (Yl.load1 rfl rfl (by kernel_rfl) (fun _ h => h.cell (i := 3) rfl (rfl))) ?_; clear HF; intro a HF
   refine fp HF 2 5 [(53, vQ (IntKind.u64.wrap (IntKind.i64.wrap (e.time - b.time)))), (52, vI (IntKind.i64.wrap (e.time - b.time)))] ?_; clear HF; intro a HF
   replace HF := HF.as (t := 53) (u := vQ ((e.time - b.time).toNat)) rfl (by rw [u64_sub (by omega) (by omega)])
   refine from_op HF (i := 7) rfl rfl ?_
   refine e_call HF (vs := [vQ ((e.time - b.time).toNat)]) rfl (by kernel_rfl) (by kernel_rfl) rfl (by decide) (write01_any ((e.time - b.time).toNat) _ (by omega)) ?_
   rintro _ w54 ⟨v, rfl, ho, hbw⟩
   obtain ⟨A54, c54, rfl, hc54⟩ := own_slice ho
   have hl54 := vbytes_length ((e.time - b.time).toNat)
   refine ⟨_, rfl, ?_⟩
   replace HM := HM.callRow hbw ho
   clear HF; intro a HF
   refine from_op HF (i := 8) rfl rfl ?_
   refine e_append HF HM (i := 1) rfl ei_u8 rfl rfl rfl (news := ((vbytes ((e.time - b.time).toNat)).map B8)) (HM.rd (i := 0) rfl) (one_B8 _) (by omega) (by omega) rfl (by decide) ?_
   clear HF HM; intro a w55 A55 c55 HF HM hc55
   refine fp HF 1 9 [(8, .slice A55 ((1 + ((vbytes ((e.seq - b.seq).toNat)).length)) + ((vbytes ((e.time - b.time).toNat)).length)) c55)] ?_; clear HF; intro a HF
   refine from_done rfl ?_
   replace HF := HF.to [(8, .slice A55 ((1 + ((vbytes ((e.seq - b.seq).toNat)).length)) + ((vbytes ((e.time - b.time).toNat)).length)) c55), (34, .bool false), (16, .bool false), (7, vI e.check), (6, .slice A12 e.outVals.length c12), (5, vI 0), (4, .slice none 0 0), (3, vP g3 0), (2, vP g2 0)]
   replace HM := HM.picks (fs' := [.row (.slice A55 ((1 + ((vbytes ((e.seq - b.seq).toNat)).length)) + ((vbytes ((e.time - b.time).toNat)).length)) c55) ((1 + ((vbytes ((e.seq - b.seq).toNat)).length)) + ((vbytes ((e.time - b.time).toNat)).length)) ((((#[vB e.kind]).toList) ++ ((vbytes ((e.seq - b.seq).toNat)).map B8)) ++ ((vbytes ((e.time - b.time).toNat)).map B8)) 5 1, .row (.slice A12 e.outVals.length c12) e.outVals.length (e.outVals.map U64) 44 1, .blk g3 e.cells 65, .blk g2 b.cells 89]) [1, 2, 3, 4] (by decide) rfl
   have hn55 : (1 + ((vbytes ((e.seq - b.seq).toNat)).length)) + ((vbytes ((e.time - b.time).toNat)).length) = (putUp b e 0).length := by rw [putUp_zero]; simp; try omega
   rw [hn55] at HM hc55
   rw [show (((#[vB e.kind]).toList) ++ ((vbytes ((e.seq - b.seq).toNat)).map B8)) ++ ((vbytes ((e.time - b.time).toNat)).map B8) = (putUp b e 0).map B8 from by simp [putUp_zero, B8]] at HM
   replace HF := HF.as (t := 8) (u := .slice A55 ((putUp b e 0).length) c55) rfl (by rw [hn55])
   refine wp_seq (wp_seq (from_start ?_))
   refine fp HF 1 0 [(9, vI 0)] ?_; clear HF; intro a HF
   refine from_done rfl ?_
   refine wp_block ?_
   refine loop_nat (fun mS aS wS => ∃ (k : Nat) (Ak : Option Addr) (ck : Nat), (k ≤ e.outVals.length) ∧ ((putUp b e k).length ≤ ck) ∧ mS = e.outVals.length - k ∧ Fr aS 70 [] [(9, vI k), (8, .slice Ak ((putUp b e k).length) ck), (34, .bool false), (16, .bool false), (7, vI e.check), (6, .slice A12 e.outVals.length c12), (5, vI 0), (4, .slice none 0 0), (3, vP g3 0), (2, vP g2 0)] ∧ Mem w wS [.row (.slice Ak ((putUp b e k).length) ck) ((putUp b e k).length) ((putUp b e k).map B8) 5 1, .row (.slice A12 e.outVals.length c12) e.outVals.length (e.outVals.map U64) 44 1, .blk g3 e.cells 65, .blk g2 b.cells 89]) (m := e.outVals.length - 0) ⟨0, A55, c55, Nat.zero_le _, hc55, rfl, HF.sub (by kernel_rfl), HM.picks [0, 1, 2, 3] (by decide) rfl⟩ ?_
   clear HF HM; rintro mS a w_ ⟨k, Ak, ck, hk, hck, rfl, HF, HM⟩
   refine wp_seq (wp_seq (from_start ?_))
   refine fp HF 2 0 [(57, .slice A12 e.outVals.length c12), (56, vI k)] ?_; clear HF; intro a HF
   refine fy HF HM 2 rfl rfl rfl (Yl.len rfl rfl (by kernel_rfl)) ?_; clear HF; intro a HF
   refine fp HF 1 3 [(59, .bool (decide ((k : Int) < (e.outVals.length : Int))))] ?_; clear HF; intro a HF
   refine from_done rfl ?_
   rcases Bool.eq_false_or_eq_true (decide ((k : Int) < (e.outVals.length : Int))) with hb59 | hb59
   ·have HF := HF.on 59 hb59
    have hk59 : k < e.outVals.length := by simp only [decide_eq_true_eq] at hb59; omega
    obtain ⟨x, hx⟩ : ∃ x, e.vals[k]? = some x := ⟨_, List.getElem?_eq_getElem (by rw [← hov]; exact hk59)⟩
    have hpl := putUp_len b e k
    refine cond_true HF rfl (wp_skip (wp_seq (wp_block (from_start ?_))))
    refine fp HF 3 0 [(64, vI k), (63, .slice A12 e.outVals.length c12), (62, .slice Ak ((putUp b e k).length) ck)] ?_; clear HF; intro a HF
    obtain ⟨gA12, rfl⟩ := own_some (HM.own (i := 1) rfl) (Nat.lt_of_le_of_lt (Nat.zero_le _) (show k < e.outVals.length from hk59))
    refine fy HF HM 3 rfl rfl rfl (v := vP gA12 (k * 1)) ((Yl.indexAddr (ad := ⟨gA12, 0, none⟩) (y := k) (sz := 1) rfl rfl rfl (hk59) (by kernel_rfl)).as (by rw [Addr.add_mid, Nat.zero_add])) ?_; clear HF; intro a HF
    refine fy HF HM 4 rfl rfl rfl (v := vQ x) (Yl.load1 rfl rfl (by kernel_rfl) (fun _ h => h.rowOne (i := 1) rfl (k := k) (map_at (F := U64) (k := k) (x := x) (by rw [hov]; exact hx)))) ?_; clear HF; intro a HF
    refine from_op HF (i := 5) rfl rfl ?_
    refine e_call HF (vs := [vQ x]) rfl (by kernel_rfl) (by kernel_rfl) rfl (by decide) (write01_any x _ (hx64 _ (List.mem_of_getElem? hx))) ?_
    rintro _ w67 ⟨v, rfl, ho, hbw⟩
    obtain ⟨A67, c67, rfl, hc67⟩ := own_slice ho
    have hl67 := vbytes_length x
    refine ⟨_, rfl, ?_⟩
    replace HM := HM.callRow hbw ho
    clear HF; intro a HF
    refine from_op HF (i := 6) rfl rfl ?_
    refine e_append HF HM (i := 1) rfl ei_u8 rfl rfl rfl (news := ((vbytes x).map B8)) (HM.rd (i := 0) rfl) (one_B8 _) (by omega) (by omega) rfl (by decide) ?_
    clear HF HM; intro a w68 A68 c68 HF HM hc68
    refine fp HF 1 7 [(8, .slice A68 (((putUp b e k).length) + ((vbytes x).length)) c68)] ?_; clear HF; intro a HF
    refine from_done rfl ?_
    replace HM := HM.picks (fs' := [.row (.slice A68 (((putUp b e k).length) + ((vbytes x).length)) c68) (((putUp b e k).length) + ((vbytes x).length)) (((putUp b e k).map B8) ++ ((vbytes x).map B8)) 5 1, .row (vS gA12 e.outVals.length c12) e.outVals.length (e.outVals.map U64) 44 1, .blk g3 e.cells 65, .blk g2 b.cells 89]) [1, 2, 3, 4] (by decide) rfl
    have hn68 : ((putUp b e k).length) + ((vbytes x).length) = (putUp b e (k + 1)).length := by rw [putUp_succ hx]; simp
    rw [hn68] at HM hc68
    rw [show ((putUp b e k).map B8) ++ ((vbytes x).map B8) = (putUp b e (k + 1)).map B8 from by rw [putUp_succ hx, List.map_append]] at HM
    replace HF := HF.as (t := 8) (u := .slice A68 ((putUp b e (k + 1)).length) c68) rfl (by rw [hn68])
    replace HF := HF.as (t := 68) (u := .slice A68 ((putUp b e (k + 1)).length) c68) rfl (by rw [hn68])
    refine from_start ?_
    refine fp HF 2 0 [(61, vI (IntKind.i64.wrap ((k : Int) + 1))), (60, vI k)] ?_; clear HF; intro a HF
    replace HF := HF.as (t := 61) (u := vI (k + 1 : Nat)) rfl (by rw [IntWalk.i64_in _ (by omega)]; simp)
    refine fp HF 1 2 [(9, vI (k + 1 : Nat))] ?_; clear HF; intro a HF
    refine from_done rfl ?_
    replace HF := HF.to [(9, vI (k + 1 : Nat)), (68, .slice A68 ((putUp b e (k + 1)).length) c68), (8, .slice A68 ((putUp b e (k + 1)).length) c68), (59, .bool true), (34, .bool false), (16, .bool false), (7, vI e.check), (6, vS gA12 e.outVals.length c12), (5, vI 0), (4, .slice none 0 0), (3, vP g3 0), (2, vP g2 0)]
    exact ⟨_, (by omega), k + 1, A68, c68, hk59, hc68, rfl, HF.sub (by kernel_rfl), HM.picks [0, 1, 2, 3] (by decide) rfl⟩
   ·have HF := HF.on 59 hb59
    obtain rfl : k = e.vals.length := by rw [hov] at hb59 hk; simp only [decide_eq_false_iff_not] at hb59; omega
    refine cond_false HF rfl (wp_exit (wp_seq (from_start ?_)))
    refine fp HF 3 0 [(5, vI 0), (4, .slice Ak ((putUp b e e.vals.length).length) ck), (69, .slice Ak ((putUp b e e.vals.length).length) ck)] ?_; clear HF; intro a HF
    refine from_done rfl ?_
    refine wp_ret ?_
    exact ret2 rfl HF (.tmp HF rfl) (.tmp HF rfl) (⟨⟨Ak, ck, by rw [putOut_good hgood hrb, putErr_good hgood hrb, ← putUp_all]; rfl, by rw [putOut_good hgood hrb, ← putUp_all]; exact HM.own (i := 0) rfl, by rw [putOut_good hgood hrb, ← putUp_all]; exact hck⟩, HM.below⟩)
end Go.Proofs.YtnakabnmjnfpcaaDoor

set_option linter.all false
namespace Go.Proofs.YtnakabnmjnfpcaaDoor
open Go.RowKit
set_option maxRecDepth 100000 in
set_option maxHeartbeats 4000000 in
theorem row07_any (A : Option Addr) (n c : Nat) (l : List Ev) (hok : ∀ e ∈ l, e.Ok) (w : World) (hr : Rd w w.heap.size 11 A n (l.flatMap evL)) (hn : n ≤ 140737488355328) (hln : l.length = n) :
    Calls Tryd.prog 62 #[.slice A n c] w (RowPost w (rowR l)) := by
 refine calls_enter (vs := [.slice A n c]) Tryd.func62 rfl rfl (by kernel_rfl) (σ0 := [(0, .slice A n c)]) rfl ?_
 intro a HF
 have HM := Mem.start w
 refine wp_seq (from_start ?_)
 refine fp HF 2 0 [(3, vI 0), (2, vI 0)] ?_; clear HF; intro a HF
 refine from_done rfl ?_
 refine wp_seq (wp_seq (from_start ?_))
 refine fp HF 1 0 [(4, vI 0)] ?_; clear HF; intro a HF
 refine from_done rfl ?_
 refine wp_block ?_
 refine loop_nat (fun mS aS wS => ∃ (k : Nat), (k ≤ n) ∧ (rowR l = rowGo (prevOf l k) k (l.drop k)) ∧ mS = n - k ∧ Fr aS 66 [] [(4, vI k), (3, vI 0), (2, vI 0), (0, .slice A n c)] ∧ Mem w wS []) (m := n - 0) ⟨0, Nat.zero_le _, rfl, rfl, HF.sub (by kernel_rfl), HM.picks [] (by decide) rfl⟩ ?_
 clear HF HM; rintro mS a w_ ⟨k, hk, hj, rfl, HF, HM⟩
 refine wp_seq (wp_seq (from_start ?_))
 refine fp HF 2 0 [(7, .slice A n c), (6, vI k)] ?_; clear HF; intro a HF
 refine fy HF HM 2 rfl rfl rfl (Yl.len rfl rfl (by kernel_rfl)) ?_; clear HF; intro a HF
 refine fp HF 1 3 [(9, .bool (decide ((k : Int) < (n : Int))))] ?_; clear HF; intro a HF
 refine from_done rfl ?_
 rcases Bool.eq_false_or_eq_true (decide ((k : Int) < (n : Int))) with hb9 | hb9
 ·have HF := HF.on 9 hb9
  have hk9 : k < n := by simp at hb9; omega
  obtain ⟨e, hke⟩ : ∃ e, l[k]? = some e := ⟨_, List.getElem?_eq_getElem (by omega)⟩
  have hgo := rowGo_next hke
  refine cond_true HF rfl (wp_skip (wp_seq (wp_block (wp_seq (wp_seq (from_start ?_))))))
  refine fp HF 2 0 [(13, vI k), (12, .slice A n c)] ?_; clear HF; intro a HF
  obtain ⟨gA, oA, rfl, _⟩ := hr.some_at (Nat.lt_of_le_of_lt (Nat.zero_le _) (show k < n from hk9)) (by decide)
  refine fy HF HM 2 rfl rfl rfl (v := vP gA (oA + k * 11)) ((Yl.indexAddr (ad := ⟨gA, oA, none⟩) (y := k) (sz := 11) rfl rfl rfl (hk9) (by kernel_rfl)).as (by rw [Addr.add_mid])) ?_; clear HF; intro a HF
  refine fy HF HM 3 rfl rfl rfl (v := .agg e.cells) (Yl.loadS rfl rfl ⟨(by kernel_rfl), (by kernel_rfl)⟩ rfl (fun _ h => (h.old hr).structAt evL_len (hke))) ?_; clear HF; intro a HF
  refine from_op HF (i := 4) rfl rfl ?_
  refine e_call HF (vs := [.agg e.cells]) rfl (by kernel_rfl) (by kernel_rfl) rfl (by decide) (check06_any e (hok e (List.mem_of_getElem? hke)) _) ?_
  rintro _ w16 ⟨rfl, hbw⟩
  refine ⟨_, rfl, ?_⟩
  replace HM := HM.call hbw
  clear HF; intro a HF
  refine fp HF 1 5 [(5, vI e.check)] ?_; clear HF; intro a HF
  refine from_done rfl ?_
  refine wp_seq (from_start ?_)
  refine fp HF 2 0 [(18, .bool ((e.check : Int) != (0 : Int))), (17, vI e.check)] ?_; clear HF; intro a HF
  refine from_done rfl ?_
  rcases Bool.eq_false_or_eq_true ((e.check : Int) != (0 : Int)) with hb18 | hb18
  ·have HF := HF.on 18 hb18
   have hcb : e.check ≠ 0 := by rw [bne_iff_ne] at hb18; omega
   rw [if_pos hcb] at hgo
   refine cond_true HF rfl (wp_seq (from_start ?_))
   refine fp HF 4 0 [(3, vI e.check), (2, vI k), (20, vI e.check), (19, vI k)] ?_; clear HF; intro a HF
   refine from_done rfl ?_
   refine wp_ret ?_
   exact ret2 rfl HF (.tmp HF rfl) (.tmp HF rfl) (⟨by rw [hj, hgo]; (try rfl), HM.below⟩)
  ·have HF := HF.on 18 hb18
   have hcg : ¬ e.check ≠ 0 := by rw [bne_eq_false_iff_eq] at hb18; omega
   rw [if_neg hcg] at hgo
   refine cond_false HF rfl (wp_skip ?_)
   refine cut_seq (fun aS wS => Fr aS 66 [] [(64, .bool (!(prevOf l k).all (fun q => e.after q))), (18, .bool false), (5, vI e.check), (9, .bool true), (4, vI k), (3, vI 0), (2, vI 0), (0, .slice (some ⟨gA, oA, none⟩) n c)] ∧ Mem w wS []) ?_ ?_
   ·
    refine any_start (by kernel_rfl) (fun wS => Mem w wS []) [] ?_
    replace HM := HM.drew
    have HS := HM.picks (fs' := []) [] (by decide) rfl
    refine ap HF (fun _ => HS) [0, 1, 2] #[true, true, true, false, false, false, false, false, false, false, false, false, false, false, false, false, false, false, false, false, false, false, false, false, false, false, false, false, false, false, false, false, false, false, false, false, false, false, false, false, false, false, false, false] [(23, .bool (decide ((k : Int) > (0 : Int)))), (22, .bool (decide ((k : Int) > (0 : Int)))), (21, vI k)] ?_; clear HF; intro a HF
    rcases Bool.eq_false_or_eq_true (decide ((k : Int) > (0 : Int))) with hb23 | hb23
    ·have HF := HF.on 23 hb23
     have hk0 : 0 < k := by simp at hb23; omega
     obtain ⟨q, hq⟩ : ∃ q, l[k - 1]? = some q := ⟨_, List.getElem?_eq_getElem (by omega)⟩
     have hpv : prevOf l k = some q := by rw [← hq, show k = (k - 1) + 1 by omega]; rfl
     refine ap HF (fun _ => HS) [3, 4, 8, 9] #[true, true, true, true, true, false, false, false, true, true, false, false, false, false, false, false, false, false, false, false, false, false, false, false, false, false, false, false, false, false, false, false, false, false, false, false, false, false, false, false, false, false, false, false] [(30, vI k), (29, .slice (some ⟨gA, oA, none⟩) n c), (25, vI k), (24, .slice (some ⟨gA, oA, none⟩) n c)] ?_; clear HF; intro a HF
     refine ay HF HS 5 rfl rfl rfl (v := vP gA (oA + k * 11)) ((Yl.indexAddr (ad := ⟨gA, oA, none⟩) (y := k) (sz := 11) rfl rfl rfl (hk9) (by kernel_rfl)).as (by rw [Addr.add_mid])) ?_; clear HF; intro a HF
     refine ap HF (fun _ => HS) [6] #[true, true, true, true, true, true, true, false, true, true, false, false, false, false, false, false, false, false, false, false, false, false, false, false, false, false, false, false, false, false, false, false, false, false, false, false, false, false, false, false, false, false, false, false] [(27, vP gA (oA + k * 11 + 2))] ?_; clear HF; intro a HF
     refine ay HF HS 7 rfl rfl rfl (v := vB e.cpu) (Yl.load1 rfl rfl (by kernel_rfl) (fun _ h => (h.old hr).partAt evL_len (k := k) (j := 2) (x := e) (hke) rfl)) ?_; clear HF; intro a HF
     refine any_pure HF (fun _ => HS) (i := 10) rfl rfl (d := 31) rfl (by decide) (by kernel_rfl) (fun _ _ _ h => h) (v := vI (IntKind.i64.wrap ((k : Int) - 1))) (fun _ => Yl.pure (by kernel_rfl)) ?_; clear HF; intro a HF
     replace HF := HF.as (t := 31) (u := vI (k - 1 : Nat)) rfl (by rw [IntWalk.i64_in _ (by omega)]; congr 1; omega)
     refine ay HF HS 11 rfl rfl rfl (v := vP gA (oA + (k - 1) * 11)) ((Yl.indexAddr (ad := ⟨gA, oA, none⟩) (y := (k - 1)) (sz := 11) rfl rfl rfl (by omega) (by kernel_rfl)).as (by rw [Addr.add_mid])) ?_; clear HF; intro a HF
     refine ap HF (fun _ => HS) [12] #[true, true, true, true, true, true, true, true, true, true, true, true, true, false, false, false, false, false, false, false, false, false, false, false, false, false, false, false, false, false, false, false, false, false, false, false, false, false, false, false, false, false, false, false] [(33, vP gA (oA + (k - 1) * 11 + 2))] ?_; clear HF; intro a HF
     refine ay HF HS 13 rfl rfl rfl (v := vB q.cpu) (Yl.load1 rfl rfl (by kernel_rfl) (fun _ h => (h.old hr).partAt evL_len (k := (k - 1)) (j := 2) (x := q) (hq) rfl)) ?_; clear HF; intro a HF
     refine ap HF (fun _ => HS) [14, 15] #[true, true, true, true, true, true, true, true, true, true, true, true, true, true, true, true, false, false, false, false, false, false, false, false, false, false, false, false, false, false, false, false, false, false, false, false, false, false, false, false, false, false, false, false] [(36, .bool ((e.cpu : Int) != (q.cpu : Int))), (35, .bool ((e.cpu : Int) != (q.cpu : Int)))] ?_; clear HF; intro a HF
     rcases Bool.eq_false_or_eq_true ((e.cpu : Int) != (q.cpu : Int)) with hb36 | hb36
     ·have HF := HF.on 36 hb36
      refine ap HF (fun _ => HS) [16, 17, 18, 19, 20, 21, 22, 23, 24, 25, 26, 27, 28, 29, 30, 31, 32, 33, 34, 35, 36, 37, 38, 39, 40, 41, 42, 43] #[true, true, true, true, true, true, true, true, true, true, true, true, true, true, true, true, true, true, true, true, true, true, true, true, true, true, true, true, true, true, true, true, true, true, true, true, true, true, true, true, true, true, true, true] [(64, .bool true), (63, .bool true), (62, undef), (61, undef), (60, undef), (59, undef), (58, undef), (57, undef), (56, undef), (55, undef), (54, undef), (53, undef), (52, undef), (51, undef), (50, .bool true), (49, .bool true), (48, undef), (47, undef), (46, undef), (45, undef), (44, undef), (43, undef), (42, undef), (41, undef), (40, undef), (39, undef), (38, undef), (37, undef)] ?_; clear HF; intro a HF
      refine any_done (by kernel_rfl) ?_
      replace HF := HF.to [(64, .bool true), (18, .bool false), (5, vI e.check), (9, .bool true), (4, vI k), (3, vI 0), (2, vI 0), (0, .slice (some ⟨gA, oA, none⟩) n c)]
      have HF := HF.as (t := 64) (u := .bool (!(prevOf l k).all (fun q => e.after q))) rfl (congrArg Value.bool (by rw [hpv]; (try simp at hb9); (try simp at hb18); (try simp at hb23); (try simp at hb36); rw [Bool.eq_iff_iff]; simp [Ev.after]; try omega))
      exact ⟨HF.sub (by kernel_rfl), HM.picks [] (by decide) rfl⟩
     ·have HF := HF.on 36 hb36
      refine ap HF (fun _ => HS) [16, 17, 21, 22] #[true, true, true, true, true, true, true, true, true, true, true, true, true, true, true, true, true, true, false, false, false, true, true, false, false, false, false, false, false, false, false, false, false, false, false, false, false, false, false, false, false, false, false, false] [(43, vI k), (42, .slice (some ⟨gA, oA, none⟩) n c), (38, vI k), (37, .slice (some ⟨gA, oA, none⟩) n c)] ?_; clear HF; intro a HF
      refine ay HF HS 18 rfl rfl rfl (v := vP gA (oA + k * 11)) ((Yl.indexAddr (ad := ⟨gA, oA, none⟩) (y := k) (sz := 11) rfl rfl rfl (hk9) (by kernel_rfl)).as (by rw [Addr.add_mid])) ?_; clear HF; intro a HF
      refine ap HF (fun _ => HS) [19] #[true, true, true, true, true, true, true, true, true, true, true, true, true, true, true, true, true, true, true, true, false, true, true, false, false, false, false, false, false, false, false, false, false, false, false, false, false, false, false, false, false, false, false, false] [(40, vP gA (oA + k * 11))] ?_; clear HF; intro a HF
      refine ay HF HS 20 rfl rfl rfl (v := vI e.seq) (Yl.load1 rfl rfl (by kernel_rfl) (fun _ h => (by have := (h.old hr).partAt evL_len (k := k) (j := 0) (x := e) (hke) rfl; simpa using this))) ?_; clear HF; intro a HF
      refine any_pure HF (fun _ => HS) (i := 23) rfl rfl (d := 44) rfl (by decide) (by kernel_rfl) (fun _ _ _ h => h) (v := vI (IntKind.i64.wrap ((k : Int) - 1))) (fun _ => Yl.pure (by kernel_rfl)) ?_; clear HF; intro a HF
      replace HF := HF.as (t := 44) (u := vI (k - 1 : Nat)) rfl (by rw [IntWalk.i64_in _ (by omega)]; congr 1; omega)
      refine ay HF HS 24 rfl rfl rfl (v := vP gA (oA + (k - 1) * 11)) ((Yl.indexAddr (ad := ⟨gA, oA, none⟩) (y := (k - 1)) (sz := 11) rfl rfl rfl (by omega) (by kernel_rfl)).as (by rw [Addr.add_mid])) ?_; clear HF; intro a HF
      refine ap HF (fun _ => HS) [25] #[true, true, true, true, true, true, true, true, true, true, true, true, true, true, true, true, true, true, true, true, true, true, true, true, true, true, false, false, false, false, false, false, false, false, false, false, false, false, false, false, false, false, false, false] [(46, vP gA (oA + (k - 1) * 11))] ?_; clear HF; intro a HF
      refine ay HF HS 26 rfl rfl rfl (v := vI q.seq) (Yl.load1 rfl rfl (by kernel_rfl) (fun _ h => (by have := (h.old hr).partAt evL_len (k := (k - 1)) (j := 0) (x := q) (hq) rfl; simpa using this))) ?_; clear HF; intro a HF
      refine ap HF (fun _ => HS) [27, 28, 29] #[true, true, true, true, true, true, true, true, true, true, true, true, true, true, true, true, true, true, true, true, true, true, true, true, true, true, true, true, true, true, false, false, false, false, false, false, false, false, false, false, false, false, false, false] [(50, .bool (decide ((e.seq : Int) ≤ (q.seq : Int)))), (49, .bool (decide ((e.seq : Int) ≤ (q.seq : Int)))), (48, .bool (decide ((e.seq : Int) ≤ (q.seq : Int))))] ?_; clear HF; intro a HF
      rcases Bool.eq_false_or_eq_true (decide ((e.seq : Int) ≤ (q.seq : Int))) with hb50 | hb50
      ·have HF := HF.on 50 hb50
       refine ap HF (fun _ => HS) [30, 31, 32, 33, 34, 35, 36, 37, 38, 39, 40, 41, 42, 43] #[true, true, true, true, true, true, true, true, true, true, true, true, true, true, true, true, true, true, true, true, true, true, true, true, true, true, true, true, true, true, true, true, true, true, true, true, true, true, true, true, true, true, true, true] [(64, .bool true), (63, .bool true), (62, undef), (61, undef), (60, undef), (59, undef), (58, undef), (57, undef), (56, undef), (55, undef), (54, undef), (53, undef), (52, undef), (51, undef)] ?_; clear HF; intro a HF
       refine any_done (by kernel_rfl) ?_
       replace HF := HF.to [(64, .bool true), (18, .bool false), (5, vI e.check), (9, .bool true), (4, vI k), (3, vI 0), (2, vI 0), (0, .slice (some ⟨gA, oA, none⟩) n c)]
       have HF := HF.as (t := 64) (u := .bool (!(prevOf l k).all (fun q => e.after q))) rfl (congrArg Value.bool (by rw [hpv]; (try simp at hb9); (try simp at hb18); (try simp at hb23); (try simp at hb36); (try simp at hb50); rw [Bool.eq_iff_iff]; simp [Ev.after]; try omega))
       exact ⟨HF.sub (by kernel_rfl), HM.picks [] (by decide) rfl⟩
      ·have HF := HF.on 50 hb50
       refine ap HF (fun _ => HS) [30, 31, 35, 36] #[true, true, true, true, true, true, true, true, true, true, true, true, true, true, true, true, true, true, true, true, true, true, true, true, true, true, true, true, true, true, true, true, false, false, false, true, true, false, false, false, false, false, false, false] [(57, vI k), (56, .slice (some ⟨gA, oA, none⟩) n c), (52, vI k), (51, .slice (some ⟨gA, oA, none⟩) n c)] ?_; clear HF; intro a HF
       refine ay HF HS 32 rfl rfl rfl (v := vP gA (oA + k * 11)) ((Yl.indexAddr (ad := ⟨gA, oA, none⟩) (y := k) (sz := 11) rfl rfl rfl (hk9) (by kernel_rfl)).as (by rw [Addr.add_mid])) ?_; clear HF; intro a HF
       refine ap HF (fun _ => HS) [33] #[true, true, true, true, true, true, true, true, true, true, true, true, true, true, true, true, true, true, true, true, true, true, true, true, true, true, true, true, true, true, true, true, true, true, false, true, true, false, false, false, false, false, false, false] [(54, vP gA (oA + k * 11 + 1))] ?_; clear HF; intro a HF
       refine ay HF HS 34 rfl rfl rfl (v := vI e.time) (Yl.load1 rfl rfl (by kernel_rfl) (fun _ h => (h.old hr).partAt evL_len (k := k) (j := 1) (x := e) (hke) rfl)) ?_; clear HF; intro a HF
       refine any_pure HF (fun _ => HS) (i := 37) rfl rfl (d := 58) rfl (by decide) (by kernel_rfl) (fun _ _ _ h => h) (v := vI (IntKind.i64.wrap ((k : Int) - 1))) (fun _ => Yl.pure (by kernel_rfl)) ?_; clear HF; intro a HF
       replace HF := HF.as (t := 58) (u := vI (k - 1 : Nat)) rfl (by rw [IntWalk.i64_in _ (by omega)]; congr 1; omega)
       refine ay HF HS 38 rfl rfl rfl (v := vP gA (oA + (k - 1) * 11)) ((Yl.indexAddr (ad := ⟨gA, oA, none⟩) (y := (k - 1)) (sz := 11) rfl rfl rfl (by omega) (by kernel_rfl)).as (by rw [Addr.add_mid])) ?_; clear HF; intro a HF
       refine ap HF (fun _ => HS) [39] #[true, true, true, true, true, true, true, true, true, true, true, true, true, true, true, true, true, true, true, true, true, true, true, true, true, true, true, true, true, true, true, true, true, true, true, true, true, true, true, true, false, false, false, false] [(60, vP gA (oA + (k - 1) * 11 + 1))] ?_; clear HF; intro a HF
       refine ay HF HS 40 rfl rfl rfl (v := vI q.time) (Yl.load1 rfl rfl (by kernel_rfl) (fun _ h => (h.old hr).partAt evL_len (k := (k - 1)) (j := 1) (x := q) (hq) rfl)) ?_; clear HF; intro a HF
       refine ap HF (fun _ => HS) [41, 42, 43] #[true, true, true, true, true, true, true, true, true, true, true, true, true, true, true, true, true, true, true, true, true, true, true, true, true, true, true, true, true, true, true, true, true, true, true, true, true, true, true, true, true, true, true, true] [(64, .bool (decide ((e.time : Int) < (q.time : Int)))), (63, .bool (decide ((e.time : Int) < (q.time : Int)))), (62, .bool (decide ((e.time : Int) < (q.time : Int))))] ?_; clear HF; intro a HF
       refine any_done (by kernel_rfl) ?_
       replace HF := HF.to [(64, .bool (decide ((e.time : Int) < (q.time : Int)))), (18, .bool false), (5, vI e.check), (9, .bool true), (4, vI k), (3, vI 0), (2, vI 0), (0, .slice (some ⟨gA, oA, none⟩) n c)]
       have HF := HF.as (t := 64) (u := .bool (!(prevOf l k).all (fun q => e.after q))) rfl (congrArg Value.bool (by rw [hpv]; (try simp at hb9); (try simp at hb18); (try simp at hb23); (try simp at hb36); (try simp at hb50); rw [Bool.eq_iff_iff]; simp [Ev.after]; try omega))
       exact ⟨HF.sub (by kernel_rfl), HM.picks [] (by decide) rfl⟩
    ·have HF := HF.on 23 hb23
     have hpv : prevOf l k = none := by rw [show k = 0 by simp at hb23; omega]; rfl
     refine ap HF (fun _ => HS) [3, 4, 5, 6, 7, 8, 9, 10, 11, 12, 13, 14, 15, 16, 17, 18, 19, 20, 21, 22, 23, 24, 25, 26, 27, 28, 29, 30, 31, 32, 33, 34, 35, 36, 37, 38, 39, 40, 41, 42, 43] #[true, true, true, true, true, true, true, true, true, true, true, true, true, true, true, true, true, true, true, true, true, true, true, true, true, true, true, true, true, true, true, true, true, true, true, true, true, true, true, true, true, true, true, true] [(64, .bool false), (63, undef), (62, undef), (61, undef), (60, undef), (59, undef), (58, undef), (57, undef), (56, undef), (55, undef), (54, undef), (53, undef), (52, undef), (51, undef), (50, undef), (49, undef), (48, undef), (47, undef), (46, undef), (45, undef), (44, undef), (43, undef), (42, undef), (41, undef), (40, undef), (39, undef), (38, undef), (37, undef), (36, undef), (35, undef), (34, undef), (33, undef), (32, undef), (31, undef), (30, undef), (29, undef), (28, undef), (27, undef), (26, undef), (25, undef), (24, undef)] ?_; clear HF; intro a HF
     refine any_done (by kernel_rfl) ?_
     replace HF := HF.to [(64, .bool false), (18, .bool false), (5, vI e.check), (9, .bool true), (4, vI k), (3, vI 0), (2, vI 0), (0, .slice (some ⟨gA, oA, none⟩) n c)]
     have HF := HF.as (t := 64) (u := .bool (!(prevOf l k).all (fun q => e.after q))) rfl (congrArg Value.bool (by rw [hpv]; (try simp at hb9); (try simp at hb18); (try simp at hb23); rw [Bool.eq_iff_iff]; simp [Ev.after]; try omega))
     exact ⟨HF.sub (by kernel_rfl), HM.picks [] (by decide) rfl⟩
   clear HF HM; rintro a w7 ⟨HF, HM⟩
   rcases Bool.eq_false_or_eq_true (!(prevOf l k).all (fun q => e.after q)) with hb64 | hb64
   ·have HF := HF.on 64 hb64
    rw [if_pos (by simpa using hb64)] at hgo
    refine cond_true HF rfl (wp_seq (from_start ?_))
    refine fp HF 3 0 [(3, vI 71), (2, vI k), (65, vI k)] ?_; clear HF; intro a HF
    refine from_done rfl ?_
    refine wp_ret ?_
    exact ret2 rfl HF (.tmp HF rfl) (.tmp HF rfl) (⟨by rw [hj, hgo]; (try rfl), HM.below⟩)
   ·have HF := HF.on 64 hb64
    rw [if_neg (by simpa using hb64)] at hgo
    refine cond_false HF rfl (wp_skip (from_start ?_))
    refine fp HF 2 0 [(11, vI (IntKind.i64.wrap ((k : Int) + 1))), (10, vI k)] ?_; clear HF; intro a HF
    replace HF := HF.as (t := 11) (u := vI (k + 1 : Nat)) rfl (by rw [IntWalk.i64_in _ (by omega)]; simp)
    refine fp HF 1 2 [(4, vI (k + 1 : Nat))] ?_; clear HF; intro a HF
    refine from_done rfl ?_
    exact ⟨_, (by omega), k + 1, by omega, hj.trans hgo, rfl, HF.sub (by kernel_rfl), HM.picks [] (by decide) rfl⟩
 ·have HF := HF.on 9 hb9
  have hk9 : k = n := by simp at hb9; omega
  refine cond_false HF rfl (wp_exit (wp_seq (from_start ?_)))
  refine fp HF 2 0 [(3, vI 0), (2, vI (-1))] ?_; clear HF; intro a HF
  refine from_done rfl ?_
  refine wp_ret ?_
  exact ret2 rfl HF (.tmp HF rfl) (.tmp HF rfl) (⟨by rw [hj, hk9, List.drop_eq_nil_of_le (by omega)]; cases prevOf l n <;> rfl, HM.below⟩)
end Go.Proofs.YtnakabnmjnfpcaaDoor

set_option linter.all false
namespace Go.Proofs.YtnakabnmjnfpcaaDoor
open Go.RowKit
set_option maxRecDepth 100000 in
set_option maxHeartbeats 4000000 in
theorem take07_any (b : Bs) (cpu : Nat) (hcpu : cpu < 256) (A : Option Addr) (n c : Nat) (l : List Nat) (w : World) (hr : Rd w w.heap.size 1 A n (l.map B8)) (hc : n ≤ c) (hl : ∀ b ∈ l, b < 256) (hn : n ≤ 140737488355328) (hln : l.length = n) :
    Calls Tryd.prog 69 #[.agg b.cells, .int .u8 (cpu : Int), .slice A n c] w (TakePost w (takeR b cpu l)) := by
 refine calls_enter (vs := [.agg b.cells, vB cpu, .slice A n c]) Tryd.func69 rfl rfl (by kernel_rfl) (σ0 := [(0, .agg b.cells), (1, vB cpu), (2, .slice A n c)]) rfl ?_
 intro a HF
 have HM := Mem.start w
 refine wp_seq (from_start ?_)
 refine from_op HF (i := 0) rfl rfl ?_
 refine e_box HF HM (cs := b.cells) rfl rfl rfl rfl (by decide) ?_
 clear HF HM; intro a w3 g3 HF HM
 refine from_op HF (i := 1) rfl rfl ?_
 refine e_alloc HF HM (cs := #[vI 0, vI 0, vB 0, vB 0, vI 0, vI 0, vI 0, vI 0, vI 0, vQ 0, vI 0]) rfl (by kernel_rfl) rfl (by decide) ?_
 clear HF HM; intro a w6 g6 HF HM
 refine fp HF 2 2 [(8, vI 0), (7, vI 0)] ?_; clear HF; intro a HF
 refine from_done rfl ?_
 refine wp_seq (from_start ?_)
 refine fy HF HM 0 rfl rfl rfl (v := .agg Ev.zero.cells) ((Yl.build (vs := []) rfl (by kernel_rfl) (by kernel_rfl))) ?_; clear HF; intro a HF
 refine from_op HF (i := 1) rfl rfl ?_
 refine e_alloc HF HM (cs := #[vI 0, vI 0, vB 0, vB 0, vI 0, vI 0, vI 0, vI 0, vI 0, vQ 0, vI 0]) rfl (by kernel_rfl) rfl (by decide) ?_
 clear HF HM; intro a w9 g9 HF HM
 refine from_op HF (i := 2) rfl rfl ?_
 refine e_storeAll HF HM (i := 0) (cs := #[vI 0, vI 0, vB 0, vB 0, vI 0, vI 0, vI 0, vI 0, vI 0, vQ 0, vI 0]) (ds := Ev.zero.cells) rfl rfl rfl rfl ⟨(by kernel_rfl), (by kernel_rfl)⟩ rfl rfl (ev_one Ev.zero) rfl ?_
 clear HM; intro w1_2 HM
 refine from_done rfl ?_
 refine wp_seq (wp_seq (from_start ?_))
 refine fy HF HM 0 rfl rfl rfl (v := .agg b.cells) (Yl.loadS rfl rfl ⟨(by kernel_rfl), (by kernel_rfl)⟩ rfl (fun _ h => range_of_block (h.blk (i := 2) rfl))) ?_; clear HF; intro a HF
 refine from_op HF (i := 1) rfl rfl ?_
 refine e_call HF (vs := [.agg b.cells]) rfl (by kernel_rfl) (by kernel_rfl) rfl (by decide) (right07_any b _) ?_
 rintro _ w19 ⟨rfl, hbw⟩
 refine ⟨_, rfl, ?_⟩
 replace HM := HM.call hbw
 clear HF; intro a HF
 refine fp HF 1 2 [(20, .bool (!b.right))] ?_; clear HF; intro a HF
 refine from_done rfl ?_
 rcases Bool.eq_false_or_eq_true (!b.right) with hb20 | hb20
 ·have HF := HF.on 20 hb20
  have hrf : b.right = false := by simpa using hb20
  refine cond_true HF rfl (wp_seq (from_start ?_))
  refine fy HF HM 0 rfl rfl rfl (v := .agg Ev.zero.cells) (Yl.loadS rfl rfl ⟨(by kernel_rfl), (by kernel_rfl)⟩ rfl (fun _ h => range_of_block (h.blk (i := 0) rfl))) ?_; clear HF; intro a HF
  refine from_op HF (i := 1) rfl rfl ?_
  refine e_storeAll HF HM (i := 1) (cs := #[vI 0, vI 0, vB 0, vB 0, vI 0, vI 0, vI 0, vI 0, vI 0, vQ 0, vI 0]) (ds := Ev.zero.cells) rfl rfl rfl rfl ⟨(by kernel_rfl), (by kernel_rfl)⟩ rfl rfl (ev_one Ev.zero) rfl ?_
  clear HM; intro w3_1 HM
  refine fp HF 2 2 [(8, vI 70), (7, vI 0)] ?_; clear HF; intro a HF
  refine from_done rfl ?_
  refine wp_ret ?_
  exact ret3 rfl HF (.cellS (i := 1) HF HM rfl rfl ⟨(by kernel_rfl), (by kernel_rfl)⟩ rfl) (.tmp HF rfl) (.tmp HF rfl) (⟨by rw [show takeR b cpu _ = _ from by rw [takeR, if_pos hrf]]; rfl, HM.below⟩)
 ·have HF := HF.on 20 hb20
  have hrt : b.right = true := by simpa using hb20
  have hbd := right_bnd hrt
  refine cond_false HF rfl (wp_skip (wp_seq (wp_seq (from_start ?_))))
  refine fp HF 1 0 [(22, .slice A n c)] ?_; clear HF; intro a HF
  refine fy HF HM 1 rfl rfl rfl (Yl.len rfl rfl (by kernel_rfl)) ?_; clear HF; intro a HF
  refine fp HF 1 2 [(24, .bool ((n : Int) == (0 : Int)))] ?_; clear HF; intro a HF
  refine from_done rfl ?_
  rcases Bool.eq_false_or_eq_true ((n : Int) == (0 : Int)) with hb24 | hb24
  ·have HF := HF.on 24 hb24
   have hn0 : l = [] := by simp at hb24; exact List.length_eq_zero_iff.1 (by omega)
   refine cond_true HF rfl (wp_seq (from_start ?_))
   refine fy HF HM 0 rfl rfl rfl (v := .agg Ev.zero.cells) (Yl.loadS rfl rfl ⟨(by kernel_rfl), (by kernel_rfl)⟩ rfl (fun _ h => range_of_block (h.blk (i := 0) rfl))) ?_; clear HF; intro a HF
   refine from_op HF (i := 1) rfl rfl ?_
   refine e_storeAll HF HM (i := 1) (cs := #[vI 0, vI 0, vB 0, vB 0, vI 0, vI 0, vI 0, vI 0, vI 0, vQ 0, vI 0]) (ds := Ev.zero.cells) rfl rfl rfl rfl ⟨(by kernel_rfl), (by kernel_rfl)⟩ rfl rfl (ev_one Ev.zero) rfl ?_
   clear HM; intro w5_1 HM
   refine fp HF 2 2 [(8, vI 10), (7, vI 0)] ?_; clear HF; intro a HF
   refine from_done rfl ?_
   refine wp_ret ?_
   exact ret3 rfl HF (.cellS (i := 1) HF HM rfl rfl ⟨(by kernel_rfl), (by kernel_rfl)⟩ rfl) (.tmp HF rfl) (.tmp HF rfl) (⟨by rw [show takeR b cpu _ = _ from by rw [takeR, if_neg (by simp [hrt]), if_pos hn0]]; rfl, HM.below⟩)
  ·have HF := HF.on 24 hb24
   have hn0 : 0 < n := by simp at hb24; omega
   obtain ⟨kd, r, rfl⟩ : ∃ kd r, l = kd :: r := by cases l with
     | nil => simp at hln; omega
     | cons a b => exact ⟨a, b, rfl⟩
   have hkd : kd < 256 := hl kd (by simp)
   simp only [List.length_cons] at hln
   have hul := usesL_len kd
   refine cond_false HF rfl (wp_skip (wp_seq (wp_seq (from_start ?_))))
   refine fp HF 1 0 [(26, .slice A n c)] ?_; clear HF; intro a HF
   obtain ⟨gA, oA, rfl, _⟩ := hr.some_at (Nat.lt_of_le_of_lt (Nat.zero_le _) (show 0 < n from by omega)) (by decide)
   refine fy HF HM 1 rfl rfl rfl (v := vP gA oA) (Yl.indexAddr (ad := ⟨gA, oA, none⟩) (y := 0) (sz := 1) rfl rfl rfl (by omega) (by kernel_rfl)) ?_; clear HF; intro a HF
   refine fy HF HM 2 rfl rfl rfl (v := vB kd) (Yl.load1 rfl rfl (by kernel_rfl) (fun _ h => (h.old hr).oneAt1 (k := 0) (map_at (F := B8) (k := 0) (x := kd) (rfl)))) ?_; clear HF; intro a HF
   refine from_op HF (i := 3) rfl rfl ?_
   refine e_call HF (vs := [vB kd]) rfl (by kernel_rfl) (by kernel_rfl) rfl (by decide) (name06_any kd hkd _) ?_
   rintro _ w29 ⟨⟨s, rfl, hs⟩, hbw⟩
   refine ⟨_, rfl, ?_⟩
   replace HM := HM.call hbw
   clear HF; intro a HF
   refine fp HF 1 4 [(30, .bool ((s).toList == ((ByteArray.mk #[])).toList))] ?_; clear HF; intro a HF
   replace HF := HF.as (t := 30) (u := .bool (!decide (1 ≤ kd ∧ kd ≤ 10))) rfl (by rw [str_empty hs])
   refine from_done rfl ?_
   rcases Bool.eq_false_or_eq_true (!decide (1 ≤ kd ∧ kd ≤ 10)) with hb30 | hb30
   ·have HF := HF.on 30 hb30
    have hku : (usesL kd).length = 0 := uses_kindless (by simp at hb30; omega)
    refine cond_true HF rfl (wp_seq (from_start ?_))
    refine fy HF HM 0 rfl rfl rfl (v := .agg Ev.zero.cells) (Yl.loadS rfl rfl ⟨(by kernel_rfl), (by kernel_rfl)⟩ rfl (fun _ h => range_of_block (h.blk (i := 0) rfl))) ?_; clear HF; intro a HF
    refine from_op HF (i := 1) rfl rfl ?_
    refine e_storeAll HF HM (i := 1) (cs := #[vI 0, vI 0, vB 0, vB 0, vI 0, vI 0, vI 0, vI 0, vI 0, vQ 0, vI 0]) (ds := Ev.zero.cells) rfl rfl rfl rfl ⟨(by kernel_rfl), (by kernel_rfl)⟩ rfl rfl (ev_one Ev.zero) rfl ?_
    clear HM; intro w7_1 HM
    refine fp HF 2 2 [(8, vI 60), (7, vI 0)] ?_; clear HF; intro a HF
    refine from_done rfl ?_
    replace HF := HF.to [(8, vI 60), (7, vI 0), (30, .bool true), (24, .bool false), (20, .bool false), (9, vP g9 0), (6, vP g6 0), (3, vP g3 0), (1, vB cpu), (2, .slice (some ⟨gA, oA, none⟩) n c)]
    refine wp_ret ?_
    exact ret3 rfl HF (.cellS (i := 1) HF HM rfl rfl ⟨(by kernel_rfl), (by kernel_rfl)⟩ rfl) (.tmp HF rfl) (.tmp HF rfl) (⟨by rw [show takeR b cpu _ = _ from takeR_kindless hrt hku]; rfl, HM.below⟩)
   ·have HF := HF.on 30 hb30
    have hku : (usesL kd).length ≠ 0 := uses_kind (by simp at hb30; omega)
    refine cond_false HF rfl (wp_skip (wp_seq (from_start ?_)))
    refine fp HF 1 0 [(10, vI 1)] ?_; clear HF; intro a HF
    refine from_done rfl ?_
    refine wp_seq (from_start ?_)
    refine fp HF 1 0 [(11, .slice none 0 0)] ?_; clear HF; intro a HF
    refine from_done rfl ?_
    replace HM := HM.nil 44 1
    refine wp_seq (wp_block ?_)
    refine loop_nat (fun mS aS wS => ∃ (u : Nat) (xs : List Nat) (Ak : Option Addr) (ck : Nat), (1 + u ≤ n) ∧ (∀ x ∈ xs, x < 18446744073709551616) ∧ (xs.length ≤ (2 + (usesL kd).length)) ∧ (xs.length ≤ ck) ∧ (readN (2 + (usesL kd).length) r = joinR xs u (readN ((2 + (usesL kd).length) - xs.length) (r.drop u))) ∧ mS = (2 + (usesL kd).length) - xs.length ∧ Fr aS 101 [] [(11, .slice Ak xs.length ck), (10, vI (1 + u : Nat)), (30, .bool false), (24, .bool false), (20, .bool false), (9, vP g9 0), (8, vI 0), (7, vI 0), (6, vP g6 0), (3, vP g3 0), (1, vB cpu), (2, .slice (some ⟨gA, oA, none⟩) n c)] ∧ Mem w wS [.row (.slice Ak xs.length ck) xs.length (xs.map U64) 44 1, .blk g9 Ev.zero.cells 65, .blk g6 #[vI 0, vI 0, vB 0, vB 0, vI 0, vI 0, vI 0, vI 0, vI 0, vQ 0, vI 0] 65, .blk g3 b.cells 89]) (m := (2 + (usesL kd).length) - [].length) ⟨0, [], none, 0, by omega, fun x hx => (by cases hx), Nat.zero_le _, Nat.le_refl _, (joinR_nil _ (readN_bad _ _)).symm, rfl, HF.sub (by kernel_rfl), HM.picks [0, 1, 2, 3] (by decide) rfl⟩ ?_
    clear HF HM; rintro mS a w_ ⟨u, xs, Ak, ck, hu, hxs, hxl, hck, hj, rfl, HF, HM⟩
    refine wp_seq (wp_seq (from_start ?_))
    refine fp HF 1 0 [(32, .slice Ak xs.length ck)] ?_; clear HF; intro a HF
    refine fy HF HM 1 rfl rfl rfl (Yl.len rfl rfl (by kernel_rfl)) ?_; clear HF; intro a HF
    refine fp HF 1 2 [(34, .slice (some ⟨gA, oA, none⟩) n c)] ?_; clear HF; intro a HF
    refine fy HF HM 3 rfl rfl rfl (v := vP gA oA) (Yl.indexAddr (ad := ⟨gA, oA, none⟩) (y := 0) (sz := 1) rfl rfl rfl (by omega) (by kernel_rfl)) ?_; clear HF; intro a HF
    refine fy HF HM 4 rfl rfl rfl (v := vB kd) (Yl.load1 rfl rfl (by kernel_rfl) (fun _ h => (h.old hr).oneAt1 (k := 0) (map_at (F := B8) (k := 0) (x := kd) (rfl)))) ?_; clear HF; intro a HF
    refine from_op HF (i := 5) rfl rfl ?_
    refine e_call HF (vs := [vB kd]) rfl (by kernel_rfl) (by kernel_rfl) rfl (by decide) (fields06_any kd hkd _) ?_
    rintro _ w37 ⟨⟨v, xs37, rfl, ho⟩, hbw⟩
    obtain ⟨A37, c37, rfl, hc37⟩ := own_slice ho
    refine ⟨_, rfl, ?_⟩
    replace HM := HM.callRow hbw ho
    clear HF; intro a HF
    refine fy HF HM 6 rfl rfl rfl (Yl.len rfl rfl (by kernel_rfl)) ?_; clear HF; intro a HF
    refine fp HF 1 7 [(39, vI (IntKind.i64.wrap (2 + (((usesL kd).length : Nat) : Int))))] ?_; clear HF; intro a HF
    replace HF := HF.as (t := 39) (u := vI (2 + (usesL kd).length : Nat)) rfl (by rw [IntWalk.i64_in _ (by omega)]; simp)
    refine fp HF 1 8 [(40, .bool (decide ((xs.length : Int) < ((2 + (usesL kd).length : Nat) : Int))))] ?_; clear HF; intro a HF
    refine from_done rfl ?_
    replace HM := HM.picks (fs' := [.row (.slice Ak xs.length ck) xs.length (xs.map U64) 44 1, .blk g9 Ev.zero.cells 65, .blk g6 #[vI 0, vI 0, vB 0, vB 0, vI 0, vI 0, vI 0, vI 0, vI 0, vQ 0, vI 0] 65, .blk g3 b.cells 89]) [1, 2, 3, 4] (by decide) rfl
    rcases Bool.eq_false_or_eq_true (decide ((xs.length : Int) < ((2 + (usesL kd).length : Nat) : Int))) with hb40 | hb40
    ·have HF := HF.on 40 hb40
     have hlt : xs.length < (2 + (usesL kd).length) := by simp at hb40; omega
     obtain ⟨q, hq⟩ : ∃ q, vread (r.drop u) = q := ⟨_, rfl⟩
     have hq64 := vread_bound (r.drop u) (fun y hy => hl y (List.mem_cons_of_mem _ (List.mem_of_mem_drop hy)))
     have hql := vread_len (r.drop u)
     rw [List.length_drop] at hql
     rw [hq] at hq64 hql
     refine cond_true HF rfl (wp_skip (wp_block (wp_seq (from_start ?_))))
     refine fp HF 2 0 [(43, vI (1 + u : Nat)), (42, .slice (some ⟨gA, oA, none⟩) n c)] ?_; clear HF; intro a HF
     refine fy HF HM 2 rfl rfl rfl (v := .slice (if c = (1 + u) then some ⟨gA, oA, none⟩ else (some ⟨gA, oA, none⟩ : Option Addr).map (·.add ((1 + u) * 1))) (n - (1 + u)) (c - (1 + u))) (Yl.sliceFrom ei_u8 (j := (1 + u)) rfl rfl rfl (by omega)) ?_; clear HF; intro a HF
     refine from_op HF (i := 3) rfl rfl ?_
     refine e_call HF (vs := [.slice (if c = (1 + u) then some ⟨gA, oA, none⟩ else (some ⟨gA, oA, none⟩ : Option Addr).map (·.add ((1 + u) * 1))) (n - (1 + u)) (c - (1 + u))]) rfl (by kernel_rfl) (by kernel_rfl) rfl (by decide) ((by have h := read01_any _ (n - (1 + u)) (c - (1 + u)) _ (r.drop u) _ (by have h := Rd.fromB8 (HM.old hr) (k := 1 + u) (by omega) hc; rw [show (kd :: r).drop (1 + u) = r.drop u from by rw [Nat.add_comm]; rfl] at h; exact h) (fun y hy => hl y (List.mem_cons_of_mem _ (List.mem_of_mem_drop hy))) (by omega); rw [hq] at h; exact h)) ?_
     rintro _ w45 ⟨rfl, rfl⟩
     refine ⟨_, rfl, ?_⟩
     replace HM := HM
     clear HF; intro a HF
     refine fp HF 7 4 [(14, vI q.2.2), (13, vI q.2.1), (12, vQ q.1), (48, vI q.2.2), (47, vI q.2.1), (46, vQ q.1), (41, .tuple #[vQ q.1, vI q.2.1, vI q.2.2])] ?_; clear HF; intro a HF
     refine from_done rfl ?_
     replace HF := HF.to [(14, vI q.2.2), (13, vI q.2.1), (12, vQ q.1), (40, .bool true), (11, .slice Ak xs.length ck), (10, vI (1 + u : Nat)), (30, .bool false), (24, .bool false), (20, .bool false), (9, vP g9 0), (8, vI 0), (7, vI 0), (6, vP g6 0), (3, vP g3 0), (1, vB cpu), (2, .slice (some ⟨gA, oA, none⟩) n c)]
     refine wp_seq (wp_seq (from_start ?_))
     refine fp HF 2 0 [(50, .bool ((q.2.2 : Int) != (0 : Int))), (49, vI q.2.2)] ?_; clear HF; intro a HF
     refine from_done rfl ?_
     rcases Bool.eq_false_or_eq_true ((q.2.2 : Int) != (0 : Int)) with hb50 | hb50
     ·have HF := HF.on 50 hb50
      have hq2 : q.2.2 ≠ 0 := by rw [bne_iff_ne] at hb50; omega
      refine cond_true HF rfl (wp_seq (from_start ?_))
      refine fy HF HM 0 rfl rfl rfl (v := .agg Ev.zero.cells) (Yl.loadS rfl rfl ⟨(by kernel_rfl), (by kernel_rfl)⟩ rfl (fun _ h => range_of_block (h.blk (i := 1) rfl))) ?_; clear HF; intro a HF
      refine fp HF 1 1 [(52, vI q.2.2)] ?_; clear HF; intro a HF
      refine from_op HF (i := 2) rfl rfl ?_
      refine e_storeAll HF HM (i := 2) (cs := #[vI 0, vI 0, vB 0, vB 0, vI 0, vI 0, vI 0, vI 0, vI 0, vQ 0, vI 0]) (ds := Ev.zero.cells) rfl rfl rfl rfl ⟨(by kernel_rfl), (by kernel_rfl)⟩ rfl rfl (ev_one Ev.zero) rfl ?_
      clear HM; intro w13_2 HM
      refine fp HF 2 3 [(8, vI q.2.2), (7, vI 0)] ?_; clear HF; intro a HF
      refine from_done rfl ?_
      refine wp_ret ?_
      exact ret3 rfl HF (.cellS (i := 2) HF HM rfl rfl ⟨(by kernel_rfl), (by kernel_rfl)⟩ rfl) (.tmp HF rfl) (.tmp HF rfl) (⟨by rw [show takeR b cpu _ = _ from takeR_unread hrt hku hj hlt hq hq2]; rfl, HM.below⟩)
     ·have HF := HF.on 50 hb50
      have hq2 : q.2.2 = 0 := by rw [bne_eq_false_iff_eq] at hb50; omega
      have hjn := readN_on hj hlt hq hq2
      refine cond_false HF rfl (wp_skip (wp_seq (from_start ?_)))
      refine fp HF 2 0 [(54, vQ q.1), (53, .slice Ak xs.length ck)] ?_; clear HF; intro a HF
      refine from_op HF (i := 2) rfl rfl ?_
      refine e_slice HF HM (vs := [(0, vQ q.1)]) (cs := #[vQ q.1]) rfl ei_u64 (by decide) rfl (by kernel_rfl) rfl (by decide) ?_
      clear HF HM; intro a w55 g55 HF HM
      refine from_op HF (i := 3) rfl rfl ?_
      refine e_append HF HM (i := 1) rfl ei_u64 rfl rfl rfl (news := [U64 q.1]) (HM.rdBlk (i := 0) (n := 1) (size := 1) rfl rfl) (by simp [Value.oneCell', U64, B8]) (by omega) (by omega) rfl (by decide) ?_
      clear HF HM; intro a w56 A56 c56 HF HM hc56
      refine fp HF 1 4 [(11, .slice A56 (xs.length + 1) c56)] ?_; clear HF; intro a HF
      refine from_done rfl ?_
      replace HM := HM.picks (fs' := [.row (.slice A56 (xs.length + 1) c56) (xs.length + 1) ((xs.map U64) ++ [U64 q.1]) 44 1, .blk g9 Ev.zero.cells 65, .blk g6 #[vI 0, vI 0, vB 0, vB 0, vI 0, vI 0, vI 0, vI 0, vI 0, vQ 0, vI 0] 65, .blk g3 b.cells 89]) [1, 2, 3, 4] (by decide) rfl
      have hnA56 : xs.length + 1 = (xs ++ [q.1]).length := by simp
      replace HM := HM.reRow (i := 0) (ys := (xs ++ [q.1]).map U64) rfl hnA56 (by simp)
      rw [hnA56] at hc56
      replace HF := HF.as (t := 11) (u := .slice A56 ((xs ++ [q.1]).length) c56) rfl (by rw [hnA56])
      replace HF := HF.as (t := 56) (u := .slice A56 ((xs ++ [q.1]).length) c56) rfl (by rw [hnA56])
      refine from_start ?_
      refine fp HF 3 0 [(59, vI (IntKind.i64.wrap (((1 + u : Nat) : Int) + (q.2.1 : Int)))), (58, vI q.2.1), (57, vI (1 + u : Nat))] ?_; clear HF; intro a HF
      replace HF := HF.as (t := 59) (u := vI (1 + (u + q.2.1) : Nat)) rfl (by rw [IntWalk.i64_in _ (by omega)]; congr 1; omega)
      refine fp HF 1 3 [(10, vI (1 + (u + q.2.1) : Nat))] ?_; clear HF; intro a HF
      refine from_done rfl ?_
      exact ⟨_, (by simp; omega), u + q.2.1, xs ++ [q.1], A56, c56, by omega, fun x hx => (List.mem_append.1 hx).elim (hxs x) (fun h => by rw [List.mem_singleton.1 h]; exact hq64), by simp; omega, hc56, hjn, rfl, HF.sub (by kernel_rfl), HM.picks [0, 1, 2, 3] (by decide) rfl⟩
    ·have HF := HF.on 40 hb40
     have hge : xs.length = (2 + (usesL kd).length) := by simp at hb40; omega
     obtain ⟨x0, x1, vs, rfl⟩ : ∃ x0 x1 vs, xs = x0 :: x1 :: vs := by
       match xs, hge with
       | x0 :: x1 :: vs, _ => exact ⟨x0, x1, vs, rfl⟩
       | [], h => simp at h; omega
       | [a], h => simp at h; omega
     refine cond_false HF rfl (wp_exit (wp_seq ?_))
     refine cut_seq (fun aS wS => Fr aS 101 [] [(69, .bool (decide (281474976710656 < x0 ∨ 281474976710656 < x1))), (40, .bool false), (11, .slice Ak ((x0 :: x1 :: vs).length) ck), (10, vI (1 + u : Nat)), (30, .bool false), (24, .bool false), (20, .bool false), (9, vP g9 0), (8, vI 0), (7, vI 0), (6, vP g6 0), (3, vP g3 0), (1, vB cpu), (2, .slice (some ⟨gA, oA, none⟩) n c)] ∧ Mem w wS [.row (.slice Ak ((x0 :: x1 :: vs).length) ck) ((x0 :: x1 :: vs).length) ((x0 :: x1 :: vs).map U64) 44 1, .blk g9 Ev.zero.cells 65, .blk g6 #[vI 0, vI 0, vB 0, vB 0, vI 0, vI 0, vI 0, vI 0, vI 0, vQ 0, vI 0] 65, .blk g3 b.cells 89]) ?_ ?_
     ·
      refine from_start ?_
      refine fp HF 1 0 [(60, .slice Ak ((x0 :: x1 :: vs).length) ck)] ?_; clear HF; intro a HF
      obtain ⟨gAk, rfl⟩ := own_some (HM.own (i := 0) rfl) (Nat.lt_of_le_of_lt (Nat.zero_le _) (show 0 < (x0 :: x1 :: vs).length from by simp))
      refine fy HF HM 1 rfl rfl rfl (v := vP gAk 0) (Yl.indexAddr (ad := ⟨gAk, 0, none⟩) (y := 0) (sz := 1) rfl rfl rfl (by simp) (by kernel_rfl)) ?_; clear HF; intro a HF
      refine fy HF HM 2 rfl rfl rfl (v := vQ x0) (Yl.load1 rfl rfl (by kernel_rfl) (fun _ h => h.rowOne (i := 0) rfl (k := 0) (map_at (F := U64) (k := 0) (x := x0) (rfl)))) ?_; clear HF; intro a HF
      refine fp HF 2 3 [(64, .bool (decide ((x0 : Int) > (281474976710656 : Int)))), (63, .bool (decide ((x0 : Int) > (281474976710656 : Int))))] ?_; clear HF; intro a HF
      rcases Bool.eq_false_or_eq_true (decide ((x0 : Int) > (281474976710656 : Int))) with hb64 | hb64
      ·have HF := HF.on 64 hb64
       refine fp HF 5 5 [(69, .bool true), (68, undef), (67, undef), (66, undef), (65, undef)] ?_; clear HF; intro a HF
       refine from_done rfl ?_
       replace HF := HF.to [(69, .bool true), (40, .bool false), (11, vS gAk ((x0 :: x1 :: vs).length) ck), (10, vI (1 + u : Nat)), (30, .bool false), (24, .bool false), (20, .bool false), (9, vP g9 0), (8, vI 0), (7, vI 0), (6, vP g6 0), (3, vP g3 0), (1, vB cpu), (2, .slice (some ⟨gA, oA, none⟩) n c)]
       have HF := HF.as (t := 69) (u := .bool (decide (281474976710656 < x0 ∨ 281474976710656 < x1))) rfl (congrArg Value.bool (by skip; (try simp at hb40); (try simp at hb64); rw [Bool.eq_iff_iff]; (try simp [hb40, hb64]); (try omega)))
       exact ⟨HF.sub (by kernel_rfl), HM.picks [0, 1, 2, 3] (by decide) rfl⟩
      ·have HF := HF.on 64 hb64
       refine fp HF 1 5 [(65, vS gAk ((x0 :: x1 :: vs).length) ck)] ?_; clear HF; intro a HF
       refine fy HF HM 6 rfl rfl rfl (v := vP gAk 1) (Yl.indexAddr (ad := ⟨gAk, 0, none⟩) (y := 1) (sz := 1) rfl rfl rfl (by simp) (by kernel_rfl)) ?_; clear HF; intro a HF
       refine fy HF HM 7 rfl rfl rfl (v := vQ x1) (Yl.load1 rfl rfl (by kernel_rfl) (fun _ h => h.rowOne (i := 0) rfl (k := 1) (map_at (F := U64) (k := 1) (x := x1) (rfl)))) ?_; clear HF; intro a HF
       refine fp HF 2 8 [(69, .bool (decide ((x1 : Int) > (281474976710656 : Int)))), (68, .bool (decide ((x1 : Int) > (281474976710656 : Int))))] ?_; clear HF; intro a HF
       refine from_done rfl ?_
       replace HF := HF.to [(69, .bool (decide ((x1 : Int) > (281474976710656 : Int)))), (40, .bool false), (11, vS gAk ((x0 :: x1 :: vs).length) ck), (10, vI (1 + u : Nat)), (30, .bool false), (24, .bool false), (20, .bool false), (9, vP g9 0), (8, vI 0), (7, vI 0), (6, vP g6 0), (3, vP g3 0), (1, vB cpu), (2, .slice (some ⟨gA, oA, none⟩) n c)]
       have HF := HF.as (t := 69) (u := .bool (decide (281474976710656 < x0 ∨ 281474976710656 < x1))) rfl (congrArg Value.bool (by skip; (try simp at hb40); (try simp at hb64); rw [Bool.eq_iff_iff]; (try simp [hb40, hb64]); (try omega)))
       exact ⟨HF.sub (by kernel_rfl), HM.picks [0, 1, 2, 3] (by decide) rfl⟩
     clear HF HM; rintro a w16 ⟨HF, HM⟩
     rcases Bool.eq_false_or_eq_true (decide (281474976710656 < x0 ∨ 281474976710656 < x1)) with hb69 | hb69
     ·have HF := HF.on 69 hb69
      have hfar : 281474976710656 < x0 ∨ 281474976710656 < x1 := by simpa using hb69
      refine cond_true HF rfl (wp_seq (from_start ?_))
      refine fy HF HM 0 rfl rfl rfl (v := .agg Ev.zero.cells) (Yl.loadS rfl rfl ⟨(by kernel_rfl), (by kernel_rfl)⟩ rfl (fun _ h => range_of_block (h.blk (i := 1) rfl))) ?_; clear HF; intro a HF
      refine from_op HF (i := 1) rfl rfl ?_
      refine e_storeAll HF HM (i := 2) (cs := #[vI 0, vI 0, vB 0, vB 0, vI 0, vI 0, vI 0, vI 0, vI 0, vQ 0, vI 0]) (ds := Ev.zero.cells) rfl rfl rfl rfl ⟨(by kernel_rfl), (by kernel_rfl)⟩ rfl rfl (ev_one Ev.zero) rfl ?_
      clear HM; intro w17_1 HM
      refine fp HF 2 2 [(8, vI 61), (7, vI 0)] ?_; clear HF; intro a HF
      refine from_done rfl ?_
      refine wp_ret ?_
      exact ret3 rfl HF (.cellS (i := 2) HF HM rfl rfl ⟨(by kernel_rfl), (by kernel_rfl)⟩ rfl) (.tmp HF rfl) (.tmp HF rfl) (⟨by rw [show takeR b cpu _ = _ from (takeR_read hrt hku hj hge).trans (takeEv_far ⟨hbd.1, hbd.2.2.1⟩ hfar)]; rfl, HM.below⟩)
     ·have HF := HF.on 69 hb69
      have hnear : ¬ (281474976710656 < x0 ∨ 281474976710656 < x1) := by simpa using hb69
      have hev := bev_ok (x0 := x0) (x1 := x1) hbd hcpu hkd hnear
      refine cond_false HF rfl (wp_skip ?_)
      refine cut_seq (fun aS wS => ∃ (g15 : Nat), Fr aS 101 [] [(16, vI ((b.ev cpu kd x0 x1).withErr vs)), (15, vP g15 0), (69, .bool false), (40, .bool false), (11, .slice Ak ((x0 :: x1 :: vs).length) ck), (10, vI (1 + u : Nat)), (30, .bool false), (24, .bool false), (20, .bool false), (9, vP g9 0), (8, vI 0), (7, vI 0), (6, vP g6 0), (3, vP g3 0), (2, .slice (some ⟨gA, oA, none⟩) n c)] ∧ Mem w wS [.blk g15 (((b.ev cpu kd x0 x1).withEv vs).cells) 65, .row (.slice Ak ((x0 :: x1 :: vs).length) ck) ((x0 :: x1 :: vs).length) ((x0 :: x1 :: vs).map U64) 44 1, .blk g9 Ev.zero.cells 65, .blk g6 #[vI 0, vI 0, vB 0, vB 0, vI 0, vI 0, vI 0, vI 0, vI 0, vQ 0, vI 0] 65, .blk g3 b.cells 89]) ?_ ?_
      ·
       refine any_start (by kernel_rfl) (fun wS => Mem w wS [.row (.slice Ak ((x0 :: x1 :: vs).length) ck) ((x0 :: x1 :: vs).length) ((x0 :: x1 :: vs).map U64) 44 1, .blk g9 Ev.zero.cells 65, .blk g6 #[vI 0, vI 0, vB 0, vB 0, vI 0, vI 0, vI 0, vI 0, vI 0, vQ 0, vI 0] 65, .blk g3 b.cells 89]) [26] ?_
       replace HM := HM.drew
       have HS := HM.picks (fs' := [.row (.slice Ak ((x0 :: x1 :: vs).length) ck) ((x0 :: x1 :: vs).length) ((x0 :: x1 :: vs).map U64) 44 1, .blk g9 Ev.zero.cells 65, .blk g6 #[vI 0, vI 0, vB 0, vB 0, vI 0, vI 0, vI 0, vI 0, vI 0, vQ 0, vI 0] 65, .blk g3 b.cells 89]) [0, 1, 2, 3] (by decide) rfl
       refine ap HF (fun _ => HS) [0, 2, 7, 9, 14, 15, 19] #[true, false, true, false, false, false, false, true, false, true, false, false, false, false, true, true, false, false, false, true, false, false, false, false, false, false, false, false] [(91, .slice Ak ((x0 :: x1 :: vs).length) ck), (87, .slice (some ⟨gA, oA, none⟩) n c), (86, vB cpu), (81, .slice Ak ((x0 :: x1 :: vs).length) ck), (79, vP g3 1), (74, .slice Ak ((x0 :: x1 :: vs).length) ck), (72, vP g3 0)] ?_; clear HF; intro a HF
       refine ay HF HS 1 rfl rfl rfl (v := vI b.seq) (Yl.load1 rfl rfl (by kernel_rfl) (fun _ h => h.cell (i := 3) rfl (rfl))) ?_; clear HF; intro a HF
       obtain ⟨gAk, rfl⟩ := own_some (HM.own (i := 0) rfl) (Nat.lt_of_le_of_lt (Nat.zero_le _) (show 0 < (x0 :: x1 :: vs).length from by simp))
       refine ay HF HS 3 rfl rfl rfl (v := vP gAk 0) (Yl.indexAddr (ad := ⟨gAk, 0, none⟩) (y := 0) (sz := 1) rfl rfl rfl (by simp) (by kernel_rfl)) ?_; clear HF; intro a HF
       refine ay HF HS 4 rfl rfl rfl (v := vQ x0) (Yl.load1 rfl rfl (by kernel_rfl) (fun _ h => h.rowOne (i := 0) rfl (k := 0) (map_at (F := U64) (k := 0) (x := x0) (rfl)))) ?_; clear HF; intro a HF
       refine any_pure HF (fun _ => HS) (i := 5) rfl rfl (d := 77) rfl (by decide) (by kernel_rfl) (fun _ _ _ h => h) (v := vI (IntKind.i64.wrap (x0 : Int))) (fun _ => Yl.pure (by kernel_rfl)) ?_; clear HF; intro a HF
       replace HF := HF.as (t := 77) (u := vI x0) rfl (by rw [IntWalk.i64_in _ (by omega)])
       refine any_pure HF (fun _ => HS) (i := 6) rfl rfl (d := 78) rfl (by decide) (by kernel_rfl) (fun _ _ _ h => h) (v := vI (IntKind.i64.wrap (b.seq + (x0 : Int)))) (fun _ => Yl.pure (by kernel_rfl)) ?_; clear HF; intro a HF
       replace HF := HF.as (t := 78) (u := vI (b.seq + (x0 : Int))) rfl (by rw [IntWalk.i64_in _ (by omega)])
       refine ay HF HS 8 rfl rfl rfl (v := vI b.time) (Yl.load1 rfl rfl (by kernel_rfl) (fun _ h => h.cell (i := 3) rfl (rfl))) ?_; clear HF; intro a HF
       refine ay HF HS 10 rfl rfl rfl (v := vP gAk 1) (Yl.indexAddr (ad := ⟨gAk, 0, none⟩) (y := 1) (sz := 1) rfl rfl rfl (by simp) (by kernel_rfl)) ?_; clear HF; intro a HF
       refine ay HF HS 11 rfl rfl rfl (v := vQ x1) (Yl.load1 rfl rfl (by kernel_rfl) (fun _ h => h.rowOne (i := 0) rfl (k := 1) (map_at (F := U64) (k := 1) (x := x1) (rfl)))) ?_; clear HF; intro a HF
       refine any_pure HF (fun _ => HS) (i := 12) rfl rfl (d := 84) rfl (by decide) (by kernel_rfl) (fun _ _ _ h => h) (v := vI (IntKind.i64.wrap (x1 : Int))) (fun _ => Yl.pure (by kernel_rfl)) ?_; clear HF; intro a HF
       replace HF := HF.as (t := 84) (u := vI x1) rfl (by rw [IntWalk.i64_in _ (by omega)])
       refine any_pure HF (fun _ => HS) (i := 13) rfl rfl (d := 85) rfl (by decide) (by kernel_rfl) (fun _ _ _ h => h) (v := vI (IntKind.i64.wrap (b.time + (x1 : Int)))) (fun _ => Yl.pure (by kernel_rfl)) ?_; clear HF; intro a HF
       replace HF := HF.as (t := 85) (u := vI (b.time + (x1 : Int))) rfl (by rw [IntWalk.i64_in _ (by omega)])
       refine ay HF HS 16 rfl rfl rfl (v := vP gA oA) (Yl.indexAddr (ad := ⟨gA, oA, none⟩) (y := 0) (sz := 1) rfl rfl rfl (by omega) (by kernel_rfl)) ?_; clear HF; intro a HF
       refine ay HF HS 17 rfl rfl rfl (v := vB kd) (Yl.load1 rfl rfl (by kernel_rfl) (fun _ h => (h.old hr).oneAt1 (k := 0) (map_at (F := B8) (k := 0) (x := kd) (rfl)))) ?_; clear HF; intro a HF
       refine ay HF HS 18 rfl rfl rfl (v := .agg ((b.ev cpu kd x0 x1).cells)) ((Yl.build (vs := [(0, vI (b.seq + (x0 : Int))), (1, vI (b.time + (x1 : Int))), (2, vB cpu), (3, vB kd)]) rfl (by kernel_rfl) (by kernel_rfl))) ?_; clear HF; intro a HF
       refine ay HF HS 20 rfl rfl rfl (v := .slice (if ck = 2 then some ⟨gAk, 0, none⟩ else (some ⟨gAk, 0, none⟩ : Option Addr).map (·.add (2 * 1))) (((x0 :: x1 :: vs).length) - 2) (ck - 2)) (Yl.sliceFrom ei_u64 (j := 2) rfl rfl rfl (by simp)) ?_; clear HF; intro a HF
       refine any_all [21, 25] (by kernel_rfl) rfl ?_
       refine all_cons ?_ ?_
       ·refine any_op HF (i := 21) rfl rfl ?_
        refine e_call HF (vs := [.agg ((b.ev cpu kd x0 x1).cells), .slice (if ck = 2 then some ⟨gAk, 0, none⟩ else (some ⟨gAk, 0, none⟩ : Option Addr).map (·.add (2 * 1))) (((x0 :: x1 :: vs).length) - 2) (ck - 2)]) rfl (by kernel_rfl) (by kernel_rfl) rfl (by decide) (rwith_any (b.ev cpu kd x0 x1) hev _ _ _ vs _ (by have h := (HM.rd (i := 0) rfl).from (k := 2) (by simp) hck; exact h) (fun y hy => hxs y (List.mem_cons_of_mem _ (List.mem_cons_of_mem _ hy)))) ?_
        rintro _ w93 ⟨rfl, hbw⟩
        refine ⟨_, rfl, ?_⟩
        replace HM := HM.call hbw
        clear HF; intro a HF
        refine keepS (HM.picks [0, 1, 2, 3] (by decide) rfl) (fun HS => ?_)
        refine ap HF (fun _ => HS) [22, 23, 24] #[true, true, true, true, true, true, true, true, true, true, true, true, true, true, true, true, true, true, true, true, true, true, true, true, true, false, false, false] [(95, vI ((b.ev cpu kd x0 x1).withErr vs)), (94, .agg (((b.ev cpu kd x0 x1).withEv vs).cells)), (71, .tuple #[.agg (((b.ev cpu kd x0 x1).withEv vs).cells), vI ((b.ev cpu kd x0 x1).withErr vs)])] ?_; clear HF; intro a HF
        refine any_all [25] (by kernel_rfl) rfl ?_
        refine all_cons ?_ all_nil
        refine any_op HF (i := 25) rfl rfl ?_
        refine e_alloc HF HM (cs := #[vI 0, vI 0, vB 0, vB 0, vI 0, vI 0, vI 0, vI 0, vI 0, vQ 0, vI 0]) rfl (by kernel_rfl) rfl (by decide) ?_
        clear HF HM; intro a w15 g15 HF HM
        refine keepS (HM.picks [1, 2, 3, 4] (by decide) rfl) (fun HS => ?_)
        refine any_all [26] (by kernel_rfl) rfl ?_
        refine all_cons ?_ all_nil
        refine any_op HF (i := 26) rfl rfl ?_
        refine e_storeAll HF HM (i := 0) (cs := #[vI 0, vI 0, vB 0, vB 0, vI 0, vI 0, vI 0, vI 0, vI 0, vQ 0, vI 0]) (ds := ((b.ev cpu kd x0 x1).withEv vs).cells) rfl rfl rfl rfl ⟨(by kernel_rfl), (by kernel_rfl)⟩ rfl rfl (ev_one ((b.ev cpu kd x0 x1).withEv vs)) rfl ?_
        clear HM; intro w18_26 HM
        refine noS (by kernel_rfl) ?_
        refine ap HF (pastS (by kernel_rfl)) [27] #[true, true, true, true, true, true, true, true, true, true, true, true, true, true, true, true, true, true, true, true, true, true, true, true, true, true, true, true] [(16, vI ((b.ev cpu kd x0 x1).withErr vs))] ?_; clear HF; intro a HF
        refine any_done (by kernel_rfl) ?_
        replace HF := HF.to [(16, vI ((b.ev cpu kd x0 x1).withErr vs)), (15, vP g15 0), (69, .bool false), (40, .bool false), (11, vS gAk ((x0 :: x1 :: vs).length) ck), (10, vI (1 + u : Nat)), (30, .bool false), (24, .bool false), (20, .bool false), (9, vP g9 0), (8, vI 0), (7, vI 0), (6, vP g6 0), (3, vP g3 0), (2, .slice (some ⟨gA, oA, none⟩) n c)]
        exact ⟨g15, HF.sub (by kernel_rfl), HM.picks [0, 1, 2, 3, 4] (by decide) rfl⟩
       refine all_cons ?_ all_nil
       refine any_op HF (i := 25) rfl rfl ?_
       refine e_alloc HF HM (cs := #[vI 0, vI 0, vB 0, vB 0, vI 0, vI 0, vI 0, vI 0, vI 0, vQ 0, vI 0]) rfl (by kernel_rfl) rfl (by decide) ?_
       clear HF HM; intro a w15 g15 HF HM
       refine keepS (HM.picks [1, 2, 3, 4] (by decide) rfl) (fun HS => ?_)
       refine any_all [21] (by kernel_rfl) rfl ?_
       refine all_cons ?_ all_nil
       refine any_op HF (i := 21) rfl rfl ?_
       refine e_call HF (vs := [.agg ((b.ev cpu kd x0 x1).cells), .slice (if ck = 2 then some ⟨gAk, 0, none⟩ else (some ⟨gAk, 0, none⟩ : Option Addr).map (·.add (2 * 1))) (((x0 :: x1 :: vs).length) - 2) (ck - 2)]) rfl (by kernel_rfl) (by kernel_rfl) rfl (by decide) (rwith_any (b.ev cpu kd x0 x1) hev _ _ _ vs _ (by have h := (HM.rd (i := 1) rfl).from (k := 2) (by simp) hck; exact h) (fun y hy => hxs y (List.mem_cons_of_mem _ (List.mem_cons_of_mem _ hy)))) ?_
       rintro _ w93 ⟨rfl, hbw⟩
       refine ⟨_, rfl, ?_⟩
       replace HM := HM.call hbw
       clear HF; intro a HF
       refine keepS (HM.picks [1, 2, 3, 4] (by decide) rfl) (fun HS => ?_)
       refine ap HF (fun _ => HS) [22, 23, 24] #[true, true, true, true, true, true, true, true, true, true, true, true, true, true, true, true, true, true, true, true, true, true, true, true, true, true, false, false] [(95, vI ((b.ev cpu kd x0 x1).withErr vs)), (94, .agg (((b.ev cpu kd x0 x1).withEv vs).cells)), (71, .tuple #[.agg (((b.ev cpu kd x0 x1).withEv vs).cells), vI ((b.ev cpu kd x0 x1).withErr vs)])] ?_; clear HF; intro a HF
       refine any_all [26] (by kernel_rfl) rfl ?_
       refine all_cons ?_ all_nil
       refine any_op HF (i := 26) rfl rfl ?_
       refine e_storeAll HF HM (i := 0) (cs := #[vI 0, vI 0, vB 0, vB 0, vI 0, vI 0, vI 0, vI 0, vI 0, vQ 0, vI 0]) (ds := ((b.ev cpu kd x0 x1).withEv vs).cells) rfl rfl rfl rfl ⟨(by kernel_rfl), (by kernel_rfl)⟩ rfl rfl (ev_one ((b.ev cpu kd x0 x1).withEv vs)) rfl ?_
       clear HM; intro w18_26 HM
       refine noS (by kernel_rfl) ?_
       refine ap HF (pastS (by kernel_rfl)) [27] #[true, true, true, true, true, true, true, true, true, true, true, true, true, true, true, true, true, true, true, true, true, true, true, true, true, true, true, true] [(16, vI ((b.ev cpu kd x0 x1).withErr vs))] ?_; clear HF; intro a HF
       refine any_done (by kernel_rfl) ?_
       replace HF := HF.to [(16, vI ((b.ev cpu kd x0 x1).withErr vs)), (15, vP g15 0), (69, .bool false), (40, .bool false), (11, vS gAk ((x0 :: x1 :: vs).length) ck), (10, vI (1 + u : Nat)), (30, .bool false), (24, .bool false), (20, .bool false), (9, vP g9 0), (8, vI 0), (7, vI 0), (6, vP g6 0), (3, vP g3 0), (2, .slice (some ⟨gA, oA, none⟩) n c)]
       exact ⟨g15, HF.sub (by kernel_rfl), HM.picks [0, 1, 2, 3, 4] (by decide) rfl⟩
      clear HF HM; rintro a w18 ⟨g15, HF, HM⟩
      refine wp_seq (wp_seq (from_start ?_))
      refine fp HF 2 0 [(97, .bool (((b.ev cpu kd x0 x1).withErr vs : Int) != (0 : Int))), (96, vI ((b.ev cpu kd x0 x1).withErr vs))] ?_; clear HF; intro a HF
      refine from_done rfl ?_
      rcases Bool.eq_false_or_eq_true (((b.ev cpu kd x0 x1).withErr vs : Int) != (0 : Int)) with hb97 | hb97
      ·have HF := HF.on 97 hb97
       have hwe : (b.ev cpu kd x0 x1).withErr vs ≠ 0 := by rw [bne_iff_ne] at hb97; omega
       refine cond_true HF rfl (wp_seq (from_start ?_))
       refine fy HF HM 0 rfl rfl rfl (v := .agg Ev.zero.cells) (Yl.loadS rfl rfl ⟨(by kernel_rfl), (by kernel_rfl)⟩ rfl (fun _ h => range_of_block (h.blk (i := 2) rfl))) ?_; clear HF; intro a HF
       refine from_op HF (i := 1) rfl rfl ?_
       refine e_storeAll HF HM (i := 3) (cs := #[vI 0, vI 0, vB 0, vB 0, vI 0, vI 0, vI 0, vI 0, vI 0, vQ 0, vI 0]) (ds := Ev.zero.cells) rfl rfl rfl rfl ⟨(by kernel_rfl), (by kernel_rfl)⟩ rfl rfl (ev_one Ev.zero) rfl ?_
       clear HM; intro w20_1 HM
       refine fp HF 2 2 [(8, vI 61), (7, vI 0)] ?_; clear HF; intro a HF
       refine from_done rfl ?_
       refine wp_ret ?_
       exact ret3 rfl HF (.cellS (i := 3) HF HM rfl rfl ⟨(by kernel_rfl), (by kernel_rfl)⟩ rfl) (.tmp HF rfl) (.tmp HF rfl) (⟨by rw [show takeR b cpu _ = _ from (takeR_read hrt hku hj hge).trans (takeEv_bad hwe)]; rfl, HM.below⟩)
      ·have HF := HF.on 97 hb97
       have hwe : (b.ev cpu kd x0 x1).withErr vs = 0 := by rw [bne_eq_false_iff_eq] at hb97; omega
       refine cond_false HF rfl (wp_skip (wp_seq (from_start ?_)))
       refine fy HF HM 0 rfl rfl rfl (v := .agg (((b.ev cpu kd x0 x1).withEv vs).cells)) (Yl.loadS rfl rfl ⟨(by kernel_rfl), (by kernel_rfl)⟩ rfl (fun _ h => range_of_block (h.blk (i := 0) rfl))) ?_; clear HF; intro a HF
       refine fp HF 1 1 [(100, vI (1 + u : Nat))] ?_; clear HF; intro a HF
       refine from_op HF (i := 2) rfl rfl ?_
       refine e_storeAll HF HM (i := 3) (cs := #[vI 0, vI 0, vB 0, vB 0, vI 0, vI 0, vI 0, vI 0, vI 0, vQ 0, vI 0]) (ds := ((b.ev cpu kd x0 x1).withEv vs).cells) rfl rfl rfl rfl ⟨(by kernel_rfl), (by kernel_rfl)⟩ rfl rfl (ev_one ((b.ev cpu kd x0 x1).withEv vs)) rfl ?_
       clear HM; intro w21_2 HM
       refine fp HF 2 3 [(8, vI 0), (7, vI (1 + u : Nat))] ?_; clear HF; intro a HF
       refine from_done rfl ?_
       refine wp_ret ?_
       exact ret3 rfl HF (.cellS (i := 3) HF HM rfl rfl ⟨(by kernel_rfl), (by kernel_rfl)⟩ rfl) (.tmp HF rfl) (.tmp HF rfl) (⟨by rw [show takeR b cpu _ = _ from (takeR_read hrt hku hj hge).trans (takeEv_good hwe)]; rfl, HM.below⟩)
end Go.Proofs.YtnakabnmjnfpcaaDoor

set_option linter.all false
namespace Go.Proofs.YtnakabnmjnfpcaaDoor
open Go.RowKit
theorem take07_is (b : Bs) (cpu : Nat) (hcpu : cpu < 256) (A : Option Addr) (n c : Nat) (l : List Nat) (w : World) (hr : Rd w w.heap.size 1 A n (l.map B8)) (hc : n ≤ c) (hl : ∀ b ∈ l, b < 256) (hn : n ≤ 140737488355328) (hln : l.length = n) {e : Ev} {L er : Nat} (h : takeR b cpu l = (e, L, er)) :
    Calls Tryd.prog 69 #[.agg b.cells, .int .u8 (cpu : Int), .slice A n c] w fun r w' => r = .returned (.tuple #[.agg e.cells, .int .i64 (L : Int), .int .i64 (er : Int)]) ∧ Below w.heap.size w w' :=
  (take07_any b cpu hcpu A n c l w hr hc hl hn hln).mono fun _ _ p => ⟨by rw [p.ret, h], p.below⟩
set_option maxRecDepth 100000 in
set_option maxHeartbeats 4000000 in
theorem read07_any (b : Bs) (cpu : Nat) (hcpu : cpu < 256) (m : Int) (hm : I64 m) (A : Option Addr) (n c : Nat) (l : List Nat) (w : World) (hr : Rd w w.heap.size 1 A n (l.map B8)) (hc : n ≤ c) (hl : ∀ b ∈ l, b < 256) (hn : n ≤ 1000000000) (hln : l.length = n) :
    Calls Tryd.prog 48 #[.agg b.cells, .int .u8 (cpu : Int), .int .i64 m, .slice A n c] w (EvsIs 65 w (readR b cpu m l)) := by
 refine calls_enter (vs := [.agg b.cells, vB cpu, vI m, .slice A n c]) Tryd.func48 rfl rfl (by kernel_rfl) (σ0 := [(0, .agg b.cells), (1, vB cpu), (2, vI m), (3, .slice A n c)]) rfl ?_
 intro a HF
 have HM := Mem.start w
 refine wp_seq (from_start ?_)
 refine from_op HF (i := 0) rfl rfl ?_
 refine e_box HF HM (cs := b.cells) rfl rfl rfl rfl (by decide) ?_
 clear HF HM; intro a w4 g4 HF HM
 refine fp HF 3 1 [(10, vI 0), (9, vI 0), (8, .slice none 0 0)] ?_; clear HF; intro a HF
 refine from_done rfl ?_
 refine wp_seq (wp_seq (from_start ?_))
 refine fp HF 2 0 [(17, .bool (decide ((m : Int) < (0 : Int)))), (16, vI m)] ?_; clear HF; intro a HF
 refine from_done rfl ?_
 rcases Bool.eq_false_or_eq_true (decide ((m : Int) < (0 : Int))) with hb17 | hb17
 ·have HF := HF.on 17 hb17
  have hm0 : m < 0 := by simpa using hb17
  refine cond_true HF rfl (wp_seq (from_start ?_))
  refine fp HF 3 0 [(10, vI 2), (9, vI 0), (8, .slice none 0 0)] ?_; clear HF; intro a HF
  refine from_done rfl ?_
  refine wp_ret ?_
  exact ret3 rfl HF (.tmp HF rfl) (.tmp HF rfl) (.tmp HF rfl) (evsIs_none (er := 2) (by unfold readR; rw [if_pos hm0]) HM.below)
 ·have HF := HF.on 17 hb17
  have hm0 : ¬ m < 0 := by simpa using hb17
  refine cond_false HF rfl (wp_skip (wp_seq (wp_seq (from_start ?_))))
  refine fy HF HM 0 rfl rfl rfl (v := .agg b.cells) (Yl.loadS rfl rfl ⟨(by kernel_rfl), (by kernel_rfl)⟩ rfl (fun _ h => range_of_block (h.blk (i := 0) rfl))) ?_; clear HF; intro a HF
  refine from_op HF (i := 1) rfl rfl ?_
  refine e_call HF (vs := [.agg b.cells]) rfl (by kernel_rfl) (by kernel_rfl) rfl (by decide) (right07_any b _) ?_
  rintro _ w19 ⟨rfl, hbw⟩
  refine ⟨_, rfl, ?_⟩
  replace HM := HM.call hbw
  clear HF; intro a HF
  refine fp HF 1 2 [(20, .bool (!b.right))] ?_; clear HF; intro a HF
  refine from_done rfl ?_
  rcases Bool.eq_false_or_eq_true (!b.right) with hb20 | hb20
  ·have HF := HF.on 20 hb20
   have hrf : b.right = false := by simpa using hb20
   refine cond_true HF rfl (wp_seq (from_start ?_))
   refine fp HF 3 0 [(10, vI 70), (9, vI 0), (8, .slice none 0 0)] ?_; clear HF; intro a HF
   refine from_done rfl ?_
   refine wp_ret ?_
   exact ret3 rfl HF (.tmp HF rfl) (.tmp HF rfl) (.tmp HF rfl) (evsIs_none (er := 70) (by unfold readR; rw [if_neg hm0, if_pos hrf]) HM.below)
  ·have HF := HF.on 20 hb20
   have hrt : b.right = true := by simpa using hb20
   refine cond_false HF rfl (wp_skip (wp_seq (from_start ?_)))
   refine fp HF 1 0 [(11, .slice none 0 0)] ?_; clear HF; intro a HF
   refine from_done rfl ?_
   replace HM := HM.nil 65 11
   refine wp_seq (from_start ?_)
   refine fp HF 1 0 [(12, vI 0)] ?_; clear HF; intro a HF
   refine from_done rfl ?_
   refine wp_seq (wp_block ?_)
   refine loop_nat (fun mS aS wS => ∃ (es : List Ev) (u : Nat) (bk : Bs) (Ak : Option Addr) (ck : Nat), (ReadJn b cpu m.toNat l es u bk) ∧ (es.length ≤ ck) ∧ mS = m.toNat - es.length ∧ Fr aS 62 [] [(12, vI u), (11, .slice Ak es.length ck), (20, .bool false), (17, .bool false), (10, vI 0), (9, vI 0), (8, .slice none 0 0), (4, vP g4 0), (1, vB cpu), (2, vI m), (3, .slice A n c)] ∧ Mem w wS [.row (.slice Ak es.length ck) es.length (es.flatMap evL) 65 11, .blk g4 bk.cells 89]) (m := m.toNat - [].length) ⟨[], 0, b, none, 0, ReadJn.start _ _ _ _, Nat.le_refl _, rfl, HF.sub (by kernel_rfl), HM.picks [0, 1] (by decide) rfl⟩ ?_
   clear HF HM; rintro mS a w_ ⟨es, u, bk, Ak, ck, hat, hck, rfl, HF, HM⟩
   refine wp_seq (wp_seq (from_start ?_))
   refine fp HF 1 0 [(21, .slice Ak es.length ck)] ?_; clear HF; intro a HF
   refine fy HF HM 1 rfl rfl rfl (Yl.len rfl rfl (by kernel_rfl)) ?_; clear HF; intro a HF
   refine fp HF 2 2 [(24, .bool (decide ((es.length : Int) < (m : Int)))), (23, vI m)] ?_; clear HF; intro a HF
   refine from_done rfl ?_
   rcases Bool.eq_false_or_eq_true (decide ((es.length : Int) < (m : Int))) with hb24 | hb24
   ·have HF := HF.on 24 hb24
    have hlt : es.length < m.toNat := by simp at hb24; omega
    have hu := hat.fits
    rw [hln] at hu
    have hmo := hat.most
    obtain ⟨e, L, er, hq⟩ : ∃ e L er, takeR bk cpu (l.drop u) = (e, L, er) := ⟨_, _, _, rfl⟩
    have htl := (takeR_len bk cpu (l.drop u)).1
    rw [hq, List.length_drop, hln] at htl
    simp only at htl
    refine cond_true HF rfl (wp_skip (wp_block ?_))
    refine cut_seq (fun aS wS => ∃ (g13 : Nat), Fr aS 62 [] [(15, vI er), (14, vI L), (13, vP g13 0), (24, .bool true), (12, vI u), (11, .slice Ak es.length ck), (20, .bool false), (17, .bool false), (10, vI 0), (9, vI 0), (8, .slice none 0 0), (4, vP g4 0), (1, vB cpu), (2, vI m), (3, .slice A n c)] ∧ Mem w wS [.blk g13 e.cells 65, .row (.slice Ak es.length ck) es.length (es.flatMap evL) 65 11, .blk g4 bk.cells 89]) ?_ ?_
    ·
     refine any_start (by kernel_rfl) (fun wS => Mem w wS [.row (.slice Ak es.length ck) es.length (es.flatMap evL) 65 11, .blk g4 bk.cells 89]) [11] ?_
     replace HM := HM.drew
     have HS := HM.picks (fs' := [.row (.slice Ak es.length ck) es.length (es.flatMap evL) 65 11, .blk g4 bk.cells 89]) [0, 1] (by decide) rfl
     refine ap HF (fun _ => HS) [1, 2, 3] #[false, true, true, true, false, false, false, false, false, false, false, false, false, false] [(29, vI u), (28, .slice A n c), (27, vB cpu)] ?_; clear HF; intro a HF
     refine ay HF HS 0 rfl rfl rfl (v := .agg bk.cells) (Yl.loadS rfl rfl ⟨(by kernel_rfl), (by kernel_rfl)⟩ rfl (fun _ h => range_of_block (h.blk (i := 1) rfl))) ?_; clear HF; intro a HF
     refine ay HF HS 4 rfl rfl rfl (v := .slice (if c = u then A else A.map (·.add (u * 1))) (n - u) (c - u)) (Yl.sliceFrom ei_u8 (j := u) rfl rfl rfl (hu)) ?_; clear HF; intro a HF
     refine any_all [5, 10] (by kernel_rfl) rfl ?_
     refine all_cons ?_ ?_
     ·refine any_op HF (i := 5) rfl rfl ?_
      refine e_call HF (vs := [.agg bk.cells, vB cpu, .slice (if c = u then A else A.map (·.add (u * 1))) (n - u) (c - u)]) rfl (by kernel_rfl) (by kernel_rfl) rfl (by decide) (take07_is bk cpu hcpu _ (n - u) (c - u) (l.drop u) _ (Rd.fromB8 (HM.old hr) (k := u) hu hc) (by omega) (fun y hy => hl y (List.mem_of_mem_drop hy)) (by omega) (by rw [List.length_drop]; omega) hq) ?_
      rintro _ w31 ⟨rfl, hbw⟩
      refine ⟨_, rfl, ?_⟩
      replace HM := HM.call hbw
      clear HF; intro a HF
      refine keepS (HM.picks [0, 1] (by decide) rfl) (fun HS => ?_)
      refine ap HF (fun _ => HS) [6, 7, 8, 9] #[true, true, true, true, true, true, true, true, true, true, false, false, false, false] [(34, vI er), (33, vI L), (32, .agg e.cells), (25, .tuple #[.agg e.cells, vI L, vI er])] ?_; clear HF; intro a HF
      refine any_all [10] (by kernel_rfl) rfl ?_
      refine all_cons ?_ all_nil
      refine any_op HF (i := 10) rfl rfl ?_
      refine e_alloc HF HM (cs := #[vI 0, vI 0, vB 0, vB 0, vI 0, vI 0, vI 0, vI 0, vI 0, vQ 0, vI 0]) rfl (by kernel_rfl) rfl (by decide) ?_
      clear HF HM; intro a w13 g13 HF HM
      refine keepS (HM.picks [1, 2] (by decide) rfl) (fun HS => ?_)
      refine any_all [11] (by kernel_rfl) rfl ?_
      refine all_cons ?_ all_nil
      refine any_op HF (i := 11) rfl rfl ?_
      refine e_storeAll HF HM (i := 0) (cs := #[vI 0, vI 0, vB 0, vB 0, vI 0, vI 0, vI 0, vI 0, vI 0, vQ 0, vI 0]) (ds := e.cells) rfl rfl rfl rfl ⟨(by kernel_rfl), (by kernel_rfl)⟩ rfl rfl (ev_one e) rfl ?_
      clear HM; intro w8_11 HM
      refine noS (by kernel_rfl) ?_
      refine ap HF (pastS (by kernel_rfl)) [12, 13] #[true, true, true, true, true, true, true, true, true, true, true, true, true, true] [(15, vI er), (14, vI L)] ?_; clear HF; intro a HF
      refine any_done (by kernel_rfl) ?_
      exact ⟨g13, HF.sub (by kernel_rfl), HM.picks [0, 1, 2] (by decide) rfl⟩
     refine all_cons ?_ all_nil
     refine any_op HF (i := 10) rfl rfl ?_
     refine e_alloc HF HM (cs := #[vI 0, vI 0, vB 0, vB 0, vI 0, vI 0, vI 0, vI 0, vI 0, vQ 0, vI 0]) rfl (by kernel_rfl) rfl (by decide) ?_
     clear HF HM; intro a w13 g13 HF HM
     refine keepS (HM.picks [1, 2] (by decide) rfl) (fun HS => ?_)
     refine any_all [5] (by kernel_rfl) rfl ?_
     refine all_cons ?_ all_nil
     refine any_op HF (i := 5) rfl rfl ?_
     refine e_call HF (vs := [.agg bk.cells, vB cpu, .slice (if c = u then A else A.map (·.add (u * 1))) (n - u) (c - u)]) rfl (by kernel_rfl) (by kernel_rfl) rfl (by decide) (take07_is bk cpu hcpu _ (n - u) (c - u) (l.drop u) _ (Rd.fromB8 (HM.old hr) (k := u) hu hc) (by omega) (fun y hy => hl y (List.mem_of_mem_drop hy)) (by omega) (by rw [List.length_drop]; omega) hq) ?_
     rintro _ w31 ⟨rfl, hbw⟩
     refine ⟨_, rfl, ?_⟩
     replace HM := HM.call hbw
     clear HF; intro a HF
     refine keepS (HM.picks [1, 2] (by decide) rfl) (fun HS => ?_)
     refine ap HF (fun _ => HS) [6, 7, 8, 9] #[true, true, true, true, true, true, true, true, true, true, true, false, false, false] [(34, vI er), (33, vI L), (32, .agg e.cells), (25, .tuple #[.agg e.cells, vI L, vI er])] ?_; clear HF; intro a HF
     refine any_all [11] (by kernel_rfl) rfl ?_
     refine all_cons ?_ all_nil
     refine any_op HF (i := 11) rfl rfl ?_
     refine e_storeAll HF HM (i := 0) (cs := #[vI 0, vI 0, vB 0, vB 0, vI 0, vI 0, vI 0, vI 0, vI 0, vQ 0, vI 0]) (ds := e.cells) rfl rfl rfl rfl ⟨(by kernel_rfl), (by kernel_rfl)⟩ rfl rfl (ev_one e) rfl ?_
     clear HM; intro w8_11 HM
     refine noS (by kernel_rfl) ?_
     refine ap HF (pastS (by kernel_rfl)) [12, 13] #[true, true, true, true, true, true, true, true, true, true, true, true, true, true] [(15, vI er), (14, vI L)] ?_; clear HF; intro a HF
     refine any_done (by kernel_rfl) ?_
     exact ⟨g13, HF.sub (by kernel_rfl), HM.picks [0, 1, 2] (by decide) rfl⟩
    clear HF HM; rintro a w8 ⟨g13, HF, HM⟩
    refine wp_seq (wp_seq (from_start ?_))
    refine fp HF 2 0 [(36, .bool ((er : Int) != (0 : Int))), (35, vI er)] ?_; clear HF; intro a HF
    refine from_done rfl ?_
    rcases Bool.eq_false_or_eq_true ((er : Int) != (0 : Int)) with hb36 | hb36
    ·have HF := HF.on 36 hb36
     have her : er ≠ 0 := by rw [bne_iff_ne] at hb36; omega
     refine cond_true HF rfl (wp_seq (from_start ?_))
     refine fp HF 4 0 [(10, vI er), (9, vI 0), (8, .slice none 0 0), (37, vI er)] ?_; clear HF; intro a HF
     refine from_done rfl ?_
     refine wp_ret ?_
     exact ret3 rfl HF (.tmp HF rfl) (.tmp HF rfl) (.tmp HF rfl) (evsIs_none (er := er) ((readR_go hm0 hrt).trans (hat.bad hlt hq her)) HM.below)
    ·have HF := HF.on 36 hb36
     have her0 : er = 0 := by rw [bne_eq_false_iff_eq] at hb36; omega
     have hq0 : takeR bk cpu (l.drop u) = (e, L, 0) := by rw [hq, her0]
     refine cond_false HF rfl (wp_skip (wp_seq ?_))
     refine cut_seq (fun aS wS => Fr aS 62 [] [(47, .bool (es.getLast?.any (fun q => decide (e.seq = q.seq)))), (36, .bool false), (15, vI er), (14, vI L), (13, vP g13 0), (24, .bool true), (12, vI u), (11, .slice Ak es.length ck), (20, .bool false), (17, .bool false), (10, vI 0), (9, vI 0), (8, .slice none 0 0), (4, vP g4 0), (1, vB cpu), (2, vI m), (3, .slice A n c)] ∧ Mem w wS [.blk g13 e.cells 65, .row (.slice Ak es.length ck) es.length (es.flatMap evL) 65 11, .blk g4 bk.cells 89]) ?_ ?_
     ·
      refine from_start ?_
      refine fp HF 1 0 [(38, .slice Ak es.length ck)] ?_; clear HF; intro a HF
      refine fy HF HM 1 rfl rfl rfl (Yl.len rfl rfl (by kernel_rfl)) ?_; clear HF; intro a HF
      refine fp HF 2 2 [(41, .bool (decide ((es.length : Int) > (0 : Int)))), (40, .bool (decide ((es.length : Int) > (0 : Int))))] ?_; clear HF; intro a HF
      rcases Bool.eq_false_or_eq_true (decide ((es.length : Int) > (0 : Int))) with hb41 | hb41
      ·have HF := HF.on 41 hb41
       obtain ⟨q, hls⟩ : ∃ q, es.getLast? = some q := by cases es with
         | nil => simp at hb41
         | cons a r => exact ⟨_, List.getLast?_cons⟩
       have hbq := hat.last q hls
       refine fp HF 1 4 [(42, vP g13 0)] ?_; clear HF; intro a HF
       refine fy HF HM 5 rfl rfl rfl (v := vI e.seq) (Yl.load1 rfl rfl (by kernel_rfl) (fun _ h => h.cell (i := 0) rfl (rfl))) ?_; clear HF; intro a HF
       refine fp HF 1 6 [(44, vP g4 0)] ?_; clear HF; intro a HF
       refine fy HF HM 7 rfl rfl rfl (v := vI bk.seq) (Yl.load1 rfl rfl (by kernel_rfl) (fun _ h => h.cell (i := 2) rfl (rfl))) ?_; clear HF; intro a HF
       refine fp HF 2 8 [(47, .bool ((e.seq : Int) == (bk.seq : Int))), (46, .bool ((e.seq : Int) == (bk.seq : Int)))] ?_; clear HF; intro a HF
       refine from_done rfl ?_
       have HF := HF.as (t := 47) (u := .bool (es.getLast?.any (fun q => decide (e.seq = q.seq)))) rfl (congrArg Value.bool (by rw [hls]; rw [hbq]; rw [Bool.eq_iff_iff]; simp [Ev.at]))
       exact ⟨HF.sub (by kernel_rfl), HM.picks [0, 1, 2] (by decide) rfl⟩
      ·have HF := HF.on 41 hb41
       have hls : es.getLast? = none := by rw [List.length_eq_zero_iff.1 (show es.length = 0 by have := of_decide_eq_false hb41; omega)]; rfl
       refine fp HF 6 4 [(47, .bool false), (46, undef), (45, undef), (44, undef), (43, undef), (42, undef)] ?_; clear HF; intro a HF
       refine from_done rfl ?_
       have HF := HF.as (t := 47) (u := .bool (es.getLast?.any (fun q => decide (e.seq = q.seq)))) rfl (congrArg Value.bool (by rw [hls]; rfl))
       exact ⟨HF.sub (by kernel_rfl), HM.picks [0, 1, 2] (by decide) rfl⟩
     clear HF HM; rintro a w11 ⟨HF, HM⟩
     rcases Bool.eq_false_or_eq_true (es.getLast?.any (fun q => decide (e.seq = q.seq))) with hb47 | hb47
     ·have HF := HF.on 47 hb47
      refine cond_true HF rfl (wp_seq (from_start ?_))
      refine fp HF 3 0 [(10, vI 71), (9, vI 0), (8, .slice none 0 0)] ?_; clear HF; intro a HF
      refine from_done rfl ?_
      refine wp_ret ?_
      exact ret3 rfl HF (.tmp HF rfl) (.tmp HF rfl) (.tmp HF rfl) (evsIs_none (er := 71) ((readR_go hm0 hrt).trans (hat.same hlt hq0 hb47)) HM.below)
     ·have HF := HF.on 47 hb47
      have hnx := hat.next hlt hq0 hb47
      refine cond_false HF rfl (wp_skip (wp_seq (from_start ?_)))
      refine fp HF 1 0 [(48, .slice Ak es.length ck)] ?_; clear HF; intro a HF
      refine fy HF HM 1 rfl rfl rfl (v := .agg e.cells) (Yl.loadS rfl rfl ⟨(by kernel_rfl), (by kernel_rfl)⟩ rfl (fun _ h => range_of_block (h.blk (i := 0) rfl))) ?_; clear HF; intro a HF
      refine from_op HF (i := 2) rfl rfl ?_
      refine e_slice HF HM (vs := [(0, .agg e.cells)]) (cs := e.cells) rfl ei_rev (by decide) rfl (by kernel_rfl) rfl (by decide) ?_
      clear HF HM; intro a w50 g50 HF HM
      refine from_op HF (i := 3) rfl rfl ?_
      refine e_append HF HM (i := 2) rfl ei_rev rfl rfl rfl (news := (evL e)) (HM.rdBlk (i := 0) (n := 1) (size := 11) rfl rfl) (ev_one e) (by omega) (by omega) rfl (by decide) ?_
      clear HF HM; intro a w51 A51 c51 HF HM hc51
      refine fp HF 1 4 [(11, .slice A51 (es.length + 1) c51)] ?_; clear HF; intro a HF
      refine from_done rfl ?_
      replace HM := HM.picks (fs' := [.blk g13 e.cells 65, .row (.slice A51 (es.length + 1) c51) (es.length + 1) ((es.flatMap evL) ++ (evL e)) 65 11, .blk g4 bk.cells 89]) [1, 2, 3] (by decide) rfl
      have hnA51 : es.length + 1 = (es ++ [e]).length := by simp
      replace HM := HM.reRow (i := 1) (ys := (es ++ [e]).flatMap evL) rfl hnA51 (by simp)
      rw [hnA51] at hc51
      replace HF := HF.as (t := 11) (u := .slice A51 ((es ++ [e]).length) c51) rfl (by rw [hnA51])
      replace HF := HF.as (t := 51) (u := .slice A51 ((es ++ [e]).length) c51) rfl (by rw [hnA51])
      refine wp_seq (from_start ?_)
      refine fp HF 3 0 [(54, vI (IntKind.i64.wrap ((u : Int) + (L : Int)))), (53, vI L), (52, vI u)] ?_; clear HF; intro a HF
      replace HF := HF.as (t := 54) (u := vI (u + L : Nat)) rfl (by rw [IntWalk.i64_in _ (by omega)]; simp)
      refine fp HF 1 3 [(12, vI (u + L : Nat))] ?_; clear HF; intro a HF
      refine from_done rfl ?_
      refine from_start ?_
      refine fp HF 1 0 [(55, vP g13 0)] ?_; clear HF; intro a HF
      refine fy HF HM 1 rfl rfl rfl (v := vI e.seq) (Yl.load1 rfl rfl (by kernel_rfl) (fun _ h => h.cell (i := 0) rfl (rfl))) ?_; clear HF; intro a HF
      refine fp HF 1 2 [(57, vP g13 1)] ?_; clear HF; intro a HF
      refine fy HF HM 3 rfl rfl rfl (v := vI e.time) (Yl.load1 rfl rfl (by kernel_rfl) (fun _ h => h.cell (i := 0) rfl (rfl))) ?_; clear HF; intro a HF
      refine fy HF HM 4 rfl rfl rfl (v := .agg e.at.cells) ((Yl.build (vs := [(0, vI e.seq), (1, vI e.time)]) rfl (by kernel_rfl) (by kernel_rfl))) ?_; clear HF; intro a HF
      refine from_op HF (i := 5) rfl rfl ?_
      refine e_storeAll HF HM (i := 2) (cs := bk.cells) (ds := e.at.cells) rfl rfl rfl rfl ⟨(by kernel_rfl), (by kernel_rfl)⟩ rfl rfl (bs_one e.at) rfl ?_
      clear HM; intro w15_5 HM
      refine from_done rfl ?_
      replace HF := HF.to [(12, vI (u + L : Nat)), (51, .slice A51 ((es ++ [e]).length) c51), (11, .slice A51 ((es ++ [e]).length) c51), (47, .bool false), (36, .bool false), (15, vI er), (14, vI L), (13, vP g13 0), (24, .bool true), (20, .bool false), (17, .bool false), (10, vI 0), (9, vI 0), (8, .slice none 0 0), (4, vP g4 0), (1, vB cpu), (2, vI m), (3, .slice A n c)]
      exact ⟨_, (by simp; omega), es ++ [e], u + L, e.at, A51, c51, hnx, hc51, rfl, HF.sub (by kernel_rfl), HM.picks [1, 2] (by decide) rfl⟩
   ·have HF := HF.on 24 hb24
    have hge : m.toNat ≤ es.length := by simp at hb24; omega
    refine cond_false HF rfl (wp_exit (wp_seq (from_start ?_)))
    refine fp HF 5 0 [(10, vI 0), (9, vI u), (8, .slice Ak es.length ck), (61, vI u), (60, .slice Ak es.length ck)] ?_; clear HF; intro a HF
    refine from_done rfl ?_
    refine wp_ret ?_
    exact ret3 rfl HF (.tmp HF rfl) (.tmp HF rfl) (.tmp HF rfl) (evsIs_row ((readR_go hm0 hrt).trans (hat.done hge)) (HM.own (i := 0) rfl) hck HM.below)
end Go.Proofs.YtnakabnmjnfpcaaDoor

set_option linter.all false
namespace Go.Proofs.YtnakabnmjnfpcaaDoor
open Go.RowKit
set_option maxRecDepth 100000 in
set_option maxHeartbeats 4000000 in
theorem write07_any (b : Bs) (A : Option Addr) (n c : Nat) (l : List Ev) (hok : ∀ e ∈ l, e.Ok) (w : World) (hr : Rd w w.heap.size 11 A n (l.flatMap evL)) (hn : n ≤ 1000000000) (hn47 : n ≤ 140737488355328) (hln : l.length = n) :
    Calls Tryd.prog 51 #[.agg b.cells, .slice A n c] w (BytesIs w (writeErr b l) (writeOut b l)) := by
 refine calls_enter (vs := [.agg b.cells, .slice A n c]) Tryd.func51 rfl rfl (by kernel_rfl) (σ0 := [(0, .agg b.cells), (1, .slice A n c)]) rfl ?_
 intro a HF
 have HM := Mem.start w
 refine wp_seq (from_start ?_)
 refine from_op HF (i := 0) rfl rfl ?_
 refine e_box HF HM (cs := b.cells) rfl rfl rfl rfl (by decide) ?_
 clear HF HM; intro a w2 g2 HF HM
 refine fp HF 2 1 [(5, vI 0), (4, .slice none 0 0)] ?_; clear HF; intro a HF
 refine from_done rfl ?_
 refine wp_seq (wp_seq (from_start ?_))
 refine fp HF 1 0 [(13, .slice A n c)] ?_; clear HF; intro a HF
 refine from_op HF (i := 1) rfl rfl ?_
 refine e_call HF (vs := [.slice A n c]) rfl (by kernel_rfl) (by kernel_rfl) rfl (by decide) (row07_any _ _ _ l hok _ (HM.old hr) hn47 hln) ?_
 rintro _ w14 ⟨rfl, hbw⟩
 refine ⟨_, rfl, ?_⟩
 replace HM := HM.call hbw
 clear HF; intro a HF
 refine fp HF 5 2 [(7, vI ((rowR l).2)), (6, vI ((rowR l).1)), (16, vI ((rowR l).2)), (15, vI ((rowR l).1)), (12, .tuple #[vI ((rowR l).1), vI ((rowR l).2)])] ?_; clear HF; intro a HF
 refine from_done rfl ?_
 refine wp_seq (from_start ?_)
 refine fp HF 2 0 [(18, .bool (((rowR l).2 : Int) != (0 : Int))), (17, vI ((rowR l).2))] ?_; clear HF; intro a HF
 refine from_done rfl ?_
 rcases Bool.eq_false_or_eq_true (((rowR l).2 : Int) != (0 : Int)) with hb18 | hb18
 ·have HF := HF.on 18 hb18
  have hr0 : (rowR l).2 ≠ 0 := by rw [bne_iff_ne] at hb18; omega
  refine cond_true HF rfl (wp_seq (from_start ?_))
  refine fp HF 3 0 [(5, vI ((rowR l).2)), (4, .slice none 0 0), (19, vI ((rowR l).2))] ?_; clear HF; intro a HF
  refine from_done rfl ?_
  refine wp_ret ?_
  exact ret2 rfl HF (.tmp HF rfl) (.tmp HF rfl) (bytesIs_none (writeErr_row hr0) (hr0) HM.below)
 ·have HF := HF.on 18 hb18
  have hr0 : (rowR l).2 = 0 := by rw [bne_eq_false_iff_eq] at hb18; omega
  refine cond_false HF rfl (wp_skip (wp_seq (wp_seq (from_start ?_))))
  refine fy HF HM 0 rfl rfl rfl (v := .agg b.cells) (Yl.loadS rfl rfl ⟨(by kernel_rfl), (by kernel_rfl)⟩ rfl (fun _ h => range_of_block (h.blk (i := 0) rfl))) ?_; clear HF; intro a HF
  refine from_op HF (i := 1) rfl rfl ?_
  refine e_call HF (vs := [.agg b.cells]) rfl (by kernel_rfl) (by kernel_rfl) rfl (by decide) (right07_any b _) ?_
  rintro _ w21 ⟨rfl, hbw⟩
  refine ⟨_, rfl, ?_⟩
  replace HM := HM.call hbw
  clear HF; intro a HF
  refine fp HF 1 2 [(22, .bool (!b.right))] ?_; clear HF; intro a HF
  refine from_done rfl ?_
  rcases Bool.eq_false_or_eq_true (!b.right) with hb22 | hb22
  ·have HF := HF.on 22 hb22
   have hrf : ¬ b.right = true := by simpa using hb22
   refine cond_true HF rfl (wp_seq (from_start ?_))
   refine fp HF 2 0 [(5, vI 70), (4, .slice none 0 0)] ?_; clear HF; intro a HF
   refine from_done rfl ?_
   refine wp_ret ?_
   exact ret2 rfl HF (.tmp HF rfl) (.tmp HF rfl) (bytesIs_none (writeErr_base hr0 hrf) (by decide) HM.below)
  ·have HF := HF.on 22 hb22
   have hrt : b.right = true := by simpa using hb22
   refine cond_false HF rfl (wp_skip (wp_seq (from_start ?_)))
   refine fp HF 1 0 [(8, .slice none 0 0)] ?_; clear HF; intro a HF
   refine from_done rfl ?_
   replace HM := HM.nil 5 1
   refine wp_seq (wp_seq (from_start ?_))
   refine fp HF 1 0 [(9, vI 0)] ?_; clear HF; intro a HF
   refine from_done rfl ?_
   refine wp_block ?_
   refine loop_nat (fun mS aS wS => ∃ (k : Nat) (bk : Bs) (Ak : Option Addr) (ck : Nat), (k ≤ n) ∧ (WriteAt b l k bk) ∧ ((writeUp b l k).length ≤ ck) ∧ mS = n - k ∧ Fr aS 56 [] [(9, vI k), (8, .slice Ak ((writeUp b l k).length) ck), (22, .bool false), (18, .bool false), (7, vI ((rowR l).2)), (5, vI 0), (4, .slice none 0 0), (2, vP g2 0), (1, .slice A n c)] ∧ Mem w wS [.row (.slice Ak ((writeUp b l k).length) ck) ((writeUp b l k).length) ((writeUp b l k).map B8) 5 1, .blk g2 bk.cells 89]) (m := n - 0) ⟨0, b, none, 0, Nat.zero_le _, WriteAt.start b l, Nat.le_refl _, rfl, HF.sub (by kernel_rfl), HM.picks [0, 1] (by decide) rfl⟩ ?_
   clear HF HM; rintro mS a w_ ⟨k, bk, Ak, ck, hk, hat, hck, rfl, HF, HM⟩
   refine wp_seq (wp_seq (from_start ?_))
   refine fp HF 2 0 [(24, .slice A n c), (23, vI k)] ?_; clear HF; intro a HF
   refine fy HF HM 2 rfl rfl rfl (Yl.len rfl rfl (by kernel_rfl)) ?_; clear HF; intro a HF
   refine fp HF 1 3 [(26, .bool (decide ((k : Int) < (n : Int))))] ?_; clear HF; intro a HF
   refine from_done rfl ?_
   rcases Bool.eq_false_or_eq_true (decide ((k : Int) < (n : Int))) with hb26 | hb26
   ·have HF := HF.on 26 hb26
    have hk26 : k < n := by simp at hb26; omega
    obtain ⟨e, hke⟩ : ∃ e, l[k]? = some e := ⟨_, List.getElem?_eq_getElem (by omega)⟩
    have hpl := putOut_le bk e
    have hwl := writeUp_len b l k
    refine cond_true HF rfl (wp_skip (wp_seq (wp_block (wp_seq ?_))))
    refine any_start (by kernel_rfl) (fun wS => Mem w wS [.row (.slice Ak ((writeUp b l k).length) ck) ((writeUp b l k).length) ((writeUp b l k).map B8) 5 1, .blk g2 bk.cells 89]) [] ?_
    replace HM := HM.drew
    have HS := HM.picks (fs' := [.row (.slice Ak ((writeUp b l k).length) ck) ((writeUp b l k).length) ((writeUp b l k).map B8) 5 1, .blk g2 bk.cells 89]) [0, 1] (by decide) rfl
    refine ap HF (fun _ => HS) [1, 2] #[false, true, true, false, false, false, false, false, false, false, false] [(32, vI k), (31, .slice A n c)] ?_; clear HF; intro a HF
    refine ay HF HS 0 rfl rfl rfl (v := .agg bk.cells) (Yl.loadS rfl rfl ⟨(by kernel_rfl), (by kernel_rfl)⟩ rfl (fun _ h => range_of_block (h.blk (i := 1) rfl))) ?_; clear HF; intro a HF
    obtain ⟨gA, oA, rfl, _⟩ := hr.some_at (Nat.lt_of_le_of_lt (Nat.zero_le _) (show k < n from hk26)) (by decide)
    refine ay HF HS 3 rfl rfl rfl (v := vP gA (oA + k * 11)) ((Yl.indexAddr (ad := ⟨gA, oA, none⟩) (y := k) (sz := 11) rfl rfl rfl (hk26) (by kernel_rfl)).as (by rw [Addr.add_mid])) ?_; clear HF; intro a HF
    refine ay HF HS 4 rfl rfl rfl (v := .agg e.cells) (Yl.loadS rfl rfl ⟨(by kernel_rfl), (by kernel_rfl)⟩ rfl (fun _ h => (h.old hr).structAt evL_len (hke))) ?_; clear HF; intro a HF
    refine any_all [5] (by kernel_rfl) rfl ?_
    refine all_cons ?_ all_nil
    refine any_op HF (i := 5) rfl rfl ?_
    refine e_call HF (vs := [.agg bk.cells, .agg e.cells]) rfl (by kernel_rfl) (by kernel_rfl) rfl (by decide) (put07_any bk e (hok e (List.mem_of_getElem? hke)) _) ?_
    rintro _ w35 ⟨⟨A35, c35, rfl, ho, hc35⟩, hbw⟩
    refine ⟨_, rfl, ?_⟩
    replace HM := HM.callRow hbw ho
    clear HF; intro a HF
    refine keepS (HM.picks [1, 2] (by decide) rfl) (fun HS => ?_)
    refine ap HF (fun _ => HS) [6, 7, 8, 9, 10] #[true, true, true, true, true, true, true, true, true, true, true] [(11, vI (putErr bk e)), (10, .slice A35 ((putOut bk e).length) c35), (37, vI (putErr bk e)), (36, .slice A35 ((putOut bk e).length) c35), (29, .tuple #[.slice A35 ((putOut bk e).length) c35, vI (putErr bk e)])] ?_; clear HF; intro a HF
    refine any_done (by kernel_rfl) ?_
    refine wp_seq (wp_seq (from_start ?_))
    refine fp HF 2 0 [(39, .bool ((putErr bk e : Int) != (0 : Int))), (38, vI (putErr bk e))] ?_; clear HF; intro a HF
    refine from_done rfl ?_
    rcases Bool.eq_false_or_eq_true ((putErr bk e : Int) != (0 : Int)) with hb39 | hb39
    ·have HF := HF.on 39 hb39
     have hpe : putErr bk e ≠ 0 := by rw [bne_iff_ne] at hb39; omega
     have hk00 : k = 0 := hat.bad hr0 hrt hke hpe
     have hend := hat.fail hr0 hrt hke hk00 hpe
     refine cond_true HF rfl (wp_seq (from_start ?_))
     refine fp HF 3 0 [(5, vI (putErr bk e)), (4, .slice none 0 0), (40, vI (putErr bk e))] ?_; clear HF; intro a HF
     refine from_done rfl ?_
     replace HF := HF.to [(5, vI (putErr bk e)), (4, .slice none 0 0), (39, .bool true), (11, vI (putErr bk e)), (10, .slice A35 ((putOut bk e).length) c35), (26, .bool true), (9, vI k), (8, .slice Ak ((writeUp b l k).length) ck), (22, .bool false), (18, .bool false), (7, vI ((rowR l).2)), (2, vP g2 0), (1, .slice (some ⟨gA, oA, none⟩) n c)]
     refine wp_ret ?_
     exact ret2 rfl HF (.tmp HF rfl) (.tmp HF rfl) (bytesIs_none (hend) (hpe) HM.below)
    ·have HF := HF.on 39 hb39
     have hpe : putErr bk e = 0 := by rw [bne_eq_false_iff_eq] at hb39; omega
     have hup := hat.up hke hpe
     have hnx := hat.next hke hpe
     refine cond_false HF rfl (wp_skip (wp_seq (from_start ?_)))
     refine fp HF 2 0 [(42, .slice A35 ((putOut bk e).length) c35), (41, .slice Ak ((writeUp b l k).length) ck)] ?_; clear HF; intro a HF
     refine from_op HF (i := 2) rfl rfl ?_
     refine e_append HF HM (i := 1) rfl ei_u8 rfl rfl rfl (news := ((putOut bk e).map B8)) (HM.rd (i := 0) rfl) (one_B8 _) (by omega) (by omega) rfl (by decide) ?_
     clear HF HM; intro a w43 A43 c43 HF HM hc43
     refine fp HF 1 3 [(8, .slice A43 (((writeUp b l k).length) + ((putOut bk e).length)) c43)] ?_; clear HF; intro a HF
     refine from_done rfl ?_
     replace HF := HF.to [(8, .slice A43 (((writeUp b l k).length) + ((putOut bk e).length)) c43), (39, .bool false), (11, vI (putErr bk e)), (10, .slice A35 ((putOut bk e).length) c35), (26, .bool true), (9, vI k), (22, .bool false), (18, .bool false), (7, vI ((rowR l).2)), (5, vI 0), (4, .slice none 0 0), (2, vP g2 0), (1, .slice (some ⟨gA, oA, none⟩) n c)]
     have hnA43 : ((writeUp b l k).length) + ((putOut bk e).length) = (writeUp b l (k + 1)).length := by rw [hup]; simp
     replace HM := HM.reRow (i := 1) (ys := (writeUp b l (k + 1)).map B8) rfl hnA43 (by rw [hup]; simp)
     rw [hnA43] at hc43
     replace HF := HF.as (t := 8) (u := .slice A43 ((writeUp b l (k + 1)).length) c43) rfl (by rw [hnA43])
     refine any_start (by kernel_rfl) (fun wS => Mem w wS [.row (.slice A35 ((putOut bk e).length) c35) ((putOut bk e).length) ((putOut bk e).map B8) 5 1, .row (.slice A43 ((writeUp b l (k + 1)).length) c43) ((writeUp b l (k + 1)).length) ((writeUp b l (k + 1)).map B8) 5 1, .blk g2 bk.cells 89]) [11] ?_
     replace HM := HM.drew
     have HS := HM.picks (fs' := [.row (.slice A35 ((putOut bk e).length) c35) ((putOut bk e).length) ((putOut bk e).map B8) 5 1, .row (.slice A43 ((writeUp b l (k + 1)).length) c43) ((writeUp b l (k + 1)).length) ((writeUp b l (k + 1)).map B8) 5 1, .blk g2 bk.cells 89]) [0, 1, 2] (by decide) rfl
     refine ap HF (fun _ => HS) [0, 1, 5, 6] #[true, true, false, false, false, true, true, false, false, false, false, false] [(50, vI k), (49, .slice (some ⟨gA, oA, none⟩) n c), (45, vI k), (44, .slice (some ⟨gA, oA, none⟩) n c)] ?_; clear HF; intro a HF
     refine ay HF HS 2 rfl rfl rfl (v := vP gA (oA + k * 11)) ((Yl.indexAddr (ad := ⟨gA, oA, none⟩) (y := k) (sz := 11) rfl rfl rfl (hk26) (by kernel_rfl)).as (by rw [Addr.add_mid])) ?_; clear HF; intro a HF
     refine ap HF (fun _ => HS) [3] #[true, true, true, true, false, true, true, false, false, false, false, false] [(47, vP gA (oA + k * 11))] ?_; clear HF; intro a HF
     refine ay HF HS 4 rfl rfl rfl (v := vI e.seq) (Yl.load1 rfl rfl (by kernel_rfl) (fun _ h => (by have := (h.old hr).partAt evL_len (k := k) (j := 0) (x := e) (hke) rfl; simpa using this))) ?_; clear HF; intro a HF
     refine ay HF HS 7 rfl rfl rfl (v := vP gA (oA + k * 11)) ((Yl.indexAddr (ad := ⟨gA, oA, none⟩) (y := k) (sz := 11) rfl rfl rfl (hk26) (by kernel_rfl)).as (by rw [Addr.add_mid])) ?_; clear HF; intro a HF
     refine ap HF (fun _ => HS) [8] #[true, true, true, true, true, true, true, true, true, false, false, false] [(52, vP gA (oA + k * 11 + 1))] ?_; clear HF; intro a HF
     refine ay HF HS 9 rfl rfl rfl (v := vI e.time) (Yl.load1 rfl rfl (by kernel_rfl) (fun _ h => (h.old hr).partAt evL_len (k := k) (j := 1) (x := e) (hke) rfl)) ?_; clear HF; intro a HF
     refine ay HF HS 10 rfl rfl rfl (v := .agg e.at.cells) ((Yl.build (vs := [(0, vI e.seq), (1, vI e.time)]) rfl (by kernel_rfl) (by kernel_rfl))) ?_; clear HF; intro a HF
     refine any_all [11] (by kernel_rfl) rfl ?_
     refine all_cons ?_ all_nil
     refine any_op HF (i := 11) rfl rfl ?_
     refine e_storeAll HF HM (i := 2) (cs := bk.cells) (ds := e.at.cells) rfl rfl rfl rfl ⟨(by kernel_rfl), (by kernel_rfl)⟩ rfl rfl (bs_one e.at) rfl ?_
     clear HM; intro w14_11 HM
     refine noS (by kernel_rfl) ?_
     refine any_done (by kernel_rfl) ?_
     refine from_start ?_
     refine fp HF 2 0 [(28, vI (IntKind.i64.wrap ((k : Int) + 1))), (27, vI k)] ?_; clear HF; intro a HF
     replace HF := HF.as (t := 28) (u := vI (k + 1 : Nat)) rfl (by rw [IntWalk.i64_in _ (by omega)]; simp)
     refine fp HF 1 2 [(9, vI (k + 1 : Nat))] ?_; clear HF; intro a HF
     refine from_done rfl ?_
     exact ⟨_, (by omega), k + 1, e.at, A43, c43, by omega, hnx, hc43, rfl, HF.sub (by kernel_rfl), HM.picks [1, 2] (by decide) rfl⟩
   ·have HF := HF.on 26 hb26
    obtain rfl : n = k := by simp at hb26; omega
    refine cond_false HF rfl (wp_exit (wp_seq (from_start ?_)))
    refine fp HF 3 0 [(5, vI 0), (4, .slice Ak ((writeUp b l n).length) ck), (55, .slice Ak ((writeUp b l n).length) ck)] ?_; clear HF; intro a HF
    refine from_done rfl ?_
    refine wp_ret ?_
    exact ret2 rfl HF (.tmp HF rfl) (.tmp HF rfl) (hat.done hr0 hrt hln (HM.own (i := 0) rfl) hck HM.below)
end Go.Proofs.YtnakabnmjnfpcaaDoor

