/- Parts. -/
import Derived.Test.YtcajpeiobkcliaaGreatDoorQfSep17
import Derived.Test.YtcajpeiobkcliaaGreatDoorQfSep13
import Derived.Test.YtcajpeiobkcliaaGreatDoorQfZ4
set_option linter.all false
set_option maxRecDepth 100000
set_option maxHeartbeats 4000000
namespace Go.Proofs.YtcajpeiobkcliaaGreatDoor
open Go.RowKit
theorem q34 (A : Option Addr) (c : Nat) (w : World) (hr : Rd w w.heap.size 1 A 11 (byA.map B8)) : Calls Tryz.prog 56 #[.slice A 11 c] w (fun r w' => (∃ A c, r = .returned (.slice A 15 c) ∧ w'.ownsRow w.heap.size 5 1 (.slice A 15 c) 15 (fstX.map B8) ∧ 15 ≤ c) ∧ Below w.heap.size w w') := by
 have h := qg2 A 11 c byA w hr rfl de qs8
 unfold qch at h
 rwa [show (sealL byA).length = 15 from qar] at h
theorem q7y (i v : Nat) (hv : v < 256) (A : Option Addr) (c : Nat) (w : World) (hr : Rd w w.heap.size 1 A 11 ((byA.set i v).map B8)) : Calls Tryz.prog 56 #[.slice A 11 c] w (fun r w' => (∃ A c, r = .returned (.slice A 15 c) ∧ w'.ownsRow w.heap.size 5 1 (.slice A 15 c) 15 ((chX i v).map B8) ∧ 15 ≤ c) ∧ Below w.heap.size w w') := by
 have h := qg2 A 11 c (byA.set i v) w hr (by rw [List.length_set]; rfl) de (qz7 qs8 hv)
 unfold qch at h
 rwa [show (sealL (byA.set i v)).length = 15 from qdd i v] at h
theorem q0i (A : Option Addr) (c : Nat) (w : World) (hr : Rd w w.heap.size 1 A 12 ((byA ++ [0]).map B8)) : Calls Tryz.prog 56 #[.slice A 12 c] w (fun r w' => (∃ A c, r = .returned (.slice A 16 c) ∧ w'.ownsRow w.heap.size 5 1 (.slice A 16 c) 16 (moreX.map B8) ∧ 16 ≤ c) ∧ Below w.heap.size w w') := by
 have h := qg2 A 12 c (byA ++ [0]) w hr rfl de de
 unfold qch at h
 rwa [show (sealL (byA ++ [0])).length = 16 from qs7] at h
theorem qmu (A : Option Addr) (n c : Nat) (l : List Nat) (B : Nat) (w : World) (hL : LaidX B w) (hB : B ≤ w.heap.size) (hr : Rd w w.heap.size 1 A n (l.map B8)) (hc : n ≤ c) (hln : l.length = n) (hn : n ≤ 100000000) (hl : ∀ z ∈ l, z < 256) {e : Nat} (h : rdE l = e) : Calls Tryz.prog 27 #[.slice A n c] w (qsx w e (rdS l)) := by
 subst hln; subst h
 exact qo4 A c l B w hL hB hr hc hn hl
theorem numsX (A : Option Addr) (c : Nat) (B : Nat) (w : World) (hL : LaidX B w) (hB : B ≤ w.heap.size) (hr : Rd w w.heap.size 1 A 15 (fstX.map B8)) (hc : 15 ≤ c) : Calls Tryz.prog 28 #[.slice A 15 c] w (fun r w' => (∃ A c, r = .returned (.tuple #[.slice A 8 c, .int .i64 0])) ∧ Below w.heap.size w w') := by
 rw [← qar] at hr hc ⊢
 refine (qhf A c fstX B w hL hB hr hc (by rw [qar]; decide) qo6).mono fun r w' h => ?_
 obtain ⟨⟨A2, c2, h1, _, _⟩, h2⟩ := h
 rw [x_err, q9x] at h1
 exact ⟨⟨A2, c2, h1⟩, h2⟩
theorem difX (A : Option Addr) (c : Nat) (D : Option Addr) (d : Nat) (B : Nat) (w : World) (hL : LaidX B w) (hB : B ≤ w.heap.size) (hr : Rd w w.heap.size 1 A 15 (fstX.map B8)) (hc : 15 ≤ c) (hr2 : Rd w w.heap.size 1 D 15 ((chX 3 2).map B8)) (hd : 15 ≤ d) : Calls Tryz.prog 31 #[.slice A 15 c, .slice D 15 d] w (Is w (.tuple #[.string ⟨#[110, 101, 120, 116]⟩, .int .i64 0])) := by
 have h := qo5 A c fstX D d (chX 3 2) B w hL hB (by rw [qar]; exact hr) (by rw [qar]; exact hc) (by rw [qar]; decide) qo6 (by rw [qdd]; exact hr2) (by rw [qdd]; exact hd) (by rw [qdd]; decide) (ch_lt de)
 rw [q9y, q9z, qar, qdd] at h
 exact h
theorem qg3 (w : World) :
    Calls Tryz.prog 54 #[] w (fun r w' => (∃ A c, r = .returned (.slice A 15 c) ∧ w'.ownsRow w.heap.size 5 1 (.slice A 15 c) 15 (fstX.map B8) ∧ 15 ≤ c) ∧ Below w.heap.size w w') := by
 refine (JN0 Tryz.func54 4) ?_
 refine (JP∘Jp 1∘Jr∘JU ei_u8 #[vB 113, vB 115, vB 1, vB 1, vB 1, vB 0, vB 1, vB 0, vB 0, vB 0, vB 0]) fun w1 g1 => fun a Z I => ?_
 refine fo Z 1 rfl rfl ?_
 refine q4g Z I 0 (e := 5) rfl rfl rfl kr kr rfl de ?_
 clear Z I; intro a w2 Z I
 exact Jb Z I ((JK (h:=by exact fun I => q34 (some ⟨g1, 0, none⟩) 11 _ (I.rdMark (i := 0) (size := 1) (n := 11) rfl rfl))) fun A3 c3 w3 hc3 => (Jp 1∘Jd3∘Jj∘JZ∘Jz1) fun I => by exact ⟨⟨_, _, rfl, I.own (i := 0) rfl, hc3⟩, I.below⟩)
theorem zu (i v : Nat) (hi : i < 11) (hv : v < 256) (w : World) :
    Calls Tryz.prog 55 #[.int .i64 (i : Int), .int .u8 (v : Int)] w (fun r w' => (∃ A c, r = .returned (.slice A 15 c) ∧ w'.ownsRow w.heap.size 5 1 (.slice A 15 c) 15 ((chX i v).map B8) ∧ 15 ≤ c) ∧ Below w.heap.size w w') := by
 refine (JN2 Tryz.func55 17) ?_
 refine (JP∘Jp 1∘Jr∘JK (h:=by exact fun I => qg3 _)) fun A6 c6 w6 hc6 => (Jp 1∘Jd1∘Jq) ?_
 repeat (first | clear Z | clear I)
 intro a Z I
 obtain ⟨gA6, rfl⟩ := qm (I.own (i := 0) rfl) (Nat.lt_of_le_of_lt (Nat.zero_le _) (show i < 15 from (by omega : i < 15)))
 refine Jb Z I ((JG∘JP∘Jp 3∘Jy (h:=by exact Yl.ix0 gA6 i 1 rfl rfl rfl)) fun a Z I => ?_)
 refine fo Z 4 rfl rfl ?_
 refine q5 Z I (i := 0) rfl rfl rfl rfl kr rfl rfl (by rw [List.length_map, qar]; omega) ?_
 clear I; intro w2_4 I
 replace I := I.asRow (i := 0) (ys := (fstX.set i v).map B8) rfl (qa3 B8 fstX i v (by rw [qar]; omega))
 exact Jb Z I ((Jt4∘Jr∘Jp 2∘Jl∘Jv 1 [(14, vI 11)]∘Jy (h:=by exact Yl.qan ei_u8 (j := 11) rfl rfl rfl om)∘JK (h:=by exact fun I => q7y i v hv (some ⟨gA6, 0, none⟩) c6 _ (by have h1 := (I.rd (i := 0) rfl).toB8 (k := 11) om; rw [q7r hi] at h1; exact h1))) fun A16 c16 w16 hc16 => (Jp 1∘Jd6∘Jj∘JZ∘Jz1) fun I => by exact ⟨⟨_, _, rfl, I.own (i := 0) rfl, hc16⟩, I.below⟩)
theorem qq2 (B : Nat) (w : World) (hL : LaidX B w) (hB : B ≤ w.heap.size) :
    Calls Tryz.prog 26 #[] w (Is w (.bool true)) := by
 refine (JN0 Tryz.func26 130) ?_
 refine (JP∘Jp 1∘Jr∘JK (h:=by exact fun I => qg3 _)) fun A16 c16 w16 hc16 => (Jp 1∘Jd1∘Jq) ?_
 repeat (first | clear Z | clear I)
 intro a Z I
 obtain ⟨gA16, rfl⟩ := qm (I.own (i := 0) rfl) (Nat.lt_of_le_of_lt (Nat.zero_le _) (show 12 < 15 from (by omega : 12 < 15)))
 refine Jb Z I ((JG∘JP∘Jp 1∘JL (h:=by exact fun I => qmu (some ⟨gA16, 0, none⟩) 15 c16 fstX B _ (hL.mem I hB) (I.le hB) (I.rd (i := 0) rfl) hc16 qar de qo6 x_ok)) ?_)
 rintro I _ w19 ⟨z19, rfl, hz19, _, hm⟩
 refine ⟨_, rfl, _, I.call hm.below, ?_⟩
 refine (Jp 1∘Jx∘Jx∘JA #[vI 0, vI 0, vQ 0, .slice none 0 0, .slice none 0 0, .slice none 0 0, .slice none 0 0, .slice none 0 0]) fun w2 g2 => (JV zb O0' (h1:=by exact qd0 z19)) fun w2_6 => (Jp 1∘Jr∘Jp 1∘JL (h:=by exact fun I => numsX (some ⟨gA16, 0, none⟩) c16 B _ (hL.mem I hB) (I.le hB) (I.rd (i := 1) rfl) hc16)) ?_
 rintro I _ w24 ⟨⟨AN, cN, rfl⟩, hbw⟩
 refine ⟨_, rfl, _, I.call hbw, ?_⟩
 refine (Jp 1∘Jx∘Jx∘Jp 2∘Jr∘Jp 1∘JK (h:=by exact fun I => zu 3 2 de de _)) fun A29 c29 w29 hc29 => (JI (h:=by exact fun I => difX (some ⟨gA16, 0, none⟩) c16 A29 c29 B _ (hL.mem I hB) (I.le hB) (I.rd (i := 2) rfl) hc16 (I.rd (i := 0) rfl) hc29)) fun w30 hbw => (Jp 1∘Jx∘Jx∘Jp 2∘Jr∘Jp 1∘Jy (h:=by exact Yl.qan ei_u8 (j := 14) rfl rfl rfl om)∘JL (h:=by exact fun I => qmu (some ⟨gA16, 0, none⟩) 14 c16 (fstX.take 14) B _ (hL.mem I hB) (I.le hB) ((I.rd (i := 2) rfl).toB8 (k := 14) de) om (by rw [List.length_take, qar]; rfl) de (qli qo6 _) q7q)) ?_
 rintro I _ w36 ⟨z36, rfl, hz36, _, hm⟩
 refine ⟨_, rfl, _, I.call hm.below, ?_⟩
 refine (Jp 1∘Jx∘Jx∘JA #[vI 0, vI 0, vQ 0, .slice none 0 0, .slice none 0 0, .slice none 0 0, .slice none 0 0, .slice none 0 0]) fun w8 g8 => (JV zb O0' (h1:=by exact qd0 z36)) fun w5_7 => (Jp 1∘Jd6∘Jr∘Jp 1∘Jy (v := vP gA16 12) (h:=by exact Yl.indexAddr (ad := ⟨gA16, 0, none⟩) (y := 12) (sz := 1) rfl rfl rfl om kr)∘Jy (h:=by exact Yl.r1 3 12 0 (by rw [qar]; decide) rfl rfl rfl)∘Jp 1∘Jo (vB ((fstX.getD 12 0 + 1) % 256 : Nat)) (by exact qeo _)∘Jy (v := vP gA16 12) (h:=by exact Yl.indexAddr (ad := ⟨gA16, 0, none⟩) (y := 12) (sz := 1) rfl rfl rfl om kr)) fun a Z I => ?_
 refine fo Z 5 rfl rfl ?_
 refine q5 Z I (i := 3) rfl rfl rfl rfl kr rfl rfl (by rw [List.length_map, qar]; decide) ?_
 clear I; intro w6_5 I
 replace I := I.asRow (i := 3) (ys := badX.map B8) rfl (qa3 B8 fstX 12 ((fstX.getD 12 0 + 1) % 256) (by rw [qar]; decide))
 refine Jb Z I ((Jt5∘Jr∘Jp 1∘JL (h:=by exact fun I => qmu (some ⟨gA16, 0, none⟩) 15 c16 badX B _ (hL.mem I hB) (I.le hB) (I.rd (i := 3) rfl) hc16 q7p de q9u x_sum)) ?_)
 rintro I _ w46 ⟨z46, rfl, hz46, _, hm⟩
 refine ⟨_, rfl, _, I.call hm.below, ?_⟩
 refine (Jp 1∘Jx∘Jx∘JA #[vI 0, vI 0, vQ 0, .slice none 0 0, .slice none 0 0, .slice none 0 0, .slice none 0 0, .slice none 0 0]) fun w10 g10 => (JV zb O0' (h1:=by exact qd0 z46)) fun w7_6 => (Jp 1∘Jd6∘Jj∘JQ∘JP∘Jv 7 [(55, .bool false)]∘Jf 0∘Jc O3∘Jo (vI 1) (by rw [← hz19.1, q9v])∘Jv 3 [(60, .bool false)]∘Jf 1∘Jf 0∘Jf 0∘Jc O3∘Jo (vI 1) (by rw [← hz19.2.1, q9w])∘Jv 3 [(67, .bool false)]∘Jf 1∘Jg 3 O3∘Jl∘Jo (vI 1) (by rw [← hz19.2.2.2.2.1, x_cl]; try rfl)∘Jv 4 [(75, .slice AN 8 cN), (74, .bool false)]∘Jl∘Jv 5 [(81, .bool (!(((ByteArray.mk #[110, 101, 120, 116])).toList == ((ByteArray.mk #[110, 101, 120, 116])).toList))), (79, .bool false)]∘Jo (.bool false) (by exact congrArg Value.bool (q30 _))∘Jv 9 [(90, .bool false)]∘Jd6∘Jj∘JF∘JS'∘JQ∘JP∘JK (h:=by exact fun I => zu 0 112 de de _)) fun A91 c91 w91 hc91 => (Jy (v := .agg #[.slice A91 15 c91, vI 342]) (h:=by exact Yl.build (vs := [(0, .slice A91 15 c91), (1, vI 342)]) rfl kr kr)∘JK (h:=by exact fun I => zu 2 2 de de _)) fun A93 c93 w93 hc93 => (Jy (v := .agg #[.slice A93 15 c93, vI 343]) (h:=by exact Yl.build (vs := [(0, .slice A93 15 c93), (1, vI 343)]) rfl kr kr)∘JK (h:=by exact fun I => zu 4 0 de de _)) fun A95 c95 w95 hc95 => (Jy (v := .agg #[.slice A95 15 c95, vI 345]) (h:=by exact Yl.build (vs := [(0, .slice A95 15 c95), (1, vI 345)]) rfl kr kr)∘JK (h:=by exact fun I => zu 4 65 de de _)) fun A97 c97 w97 hc97 => (Jy (v := .agg #[.slice A97 15 c97, vI 345]) (h:=by exact Yl.build (vs := [(0, .slice A97 15 c97), (1, vI 345)]) rfl kr kr)∘JK (h:=by exact fun I => zu 6 0 de de _)) fun A99 c99 w99 hc99 => (Jy (v := .agg #[.slice A99 15 c99, vI 345]) (h:=by exact Yl.build (vs := [(0, .slice A99 15 c99), (1, vI 345)]) rfl kr kr)∘JK (h:=by exact fun I => zu 9 1 de de _)) fun A101 c101 w101 hc101 => (Jy (v := .agg #[.slice A101 15 c101, vI 344]) (h:=by exact Yl.build (vs := [(0, .slice A101 15 c101), (1, vI 344)]) rfl kr kr)∘JK (h:=by exact fun I => qg3 _)) fun A103 c103 w103 hc103 => ?_
 repeat (first | clear Z | clear I)
 intro a Z I
 obtain ⟨gA103, rfl⟩ := qm (I.own (i := 0) rfl) (Nat.lt_of_le_of_lt (Nat.zero_le _) (show 0 < 15 from (by omega : 0 < 15)))
 refine Jb Z I ((Jy (v := vS gA103 11 11) (h:=by exact Yl.q78 ei_u8 (j := 11) (q := 11) rfl rfl rfl rfl om om)∘JU ei_u8 #[vB 0]) fun w105 g105 => fun a Z I => ?_)
 refine fo Z 15 rfl rfl ?_
 refine qfj Z I (xs := byA.map B8) (news := [0].map B8) rfl ei_u8 rfl rfl ((by have h1 := (I.rd (i := 1) rfl).toB8 (k := 11) de; rw [q31] at h1; exact h1)) (I.rdBlk (i := 0) (size := 1) (n := 1) rfl rfl) om om (fun h => by cases h) om om rfl de ?_
 clear Z I; intro a w106 g106 c106 Z I hc106
 replace I := I.asRow (i := 0) (ys := (byA ++ [0]).map B8) rfl (rfl)
 refine Jb Z I ((JK (h:=by exact fun I => q0i (some ⟨g106, 0, none⟩) c106 _ (I.rd (i := 0) rfl))) fun A107 c107 w107 hc107 => (Jy (v := .agg #[.slice A107 16 c107, vI 346]) (h:=by exact Yl.build (vs := [(0, .slice A107 16 c107), (1, vI 346)]) rfl kr kr)∘JK (h:=by exact fun I => zu 3 0 de de _)) fun A109 c109 w109 hc109 => (Jy (v := .agg #[.slice A109 15 c109, vI 347]) (h:=by exact Yl.build (vs := [(0, .slice A109 15 c109), (1, vI 347)]) rfl kr kr)∘JK (h:=by exact fun I => zu 8 5 de de _)) fun A111 c111 w111 hc111 => (Jy (v := .agg #[.slice A111 15 c111, vI 347]) (h:=by exact Yl.build (vs := [(0, .slice A111 15 c111), (1, vI 347)]) rfl kr kr)∘JU ei_xb #[.slice A91 15 c91, vI 342, .slice A93 15 c93, vI 343, .slice A95 15 c95, vI 345, .slice A97 15 c97, vI 345, .slice A99 15 c99, vI 345, .slice A101 15 c101, vI 344, .slice A107 16 c107, vI 346, .slice A109 15 c109, vI 347, .slice A111 15 c111, vI 347]) fun w113 g113 => (Jl∘Jp 1∘Jq) fun a Z I => ?_)
 replace Z := Z.to [(115, vI 0), (114, vI 9), (113, vS g113 9 9), (90, .bool false), (2, vP g2 0), (1, vS gA16 15 c16), (0, .bool false)]
 replace I := (I.blkRow (i := 0) (n := 9) (size := 2) rfl rfl de).asRow (i := 0) (ys := ([⟨A91, 15, c91, chX 0 112, 342⟩, ⟨A93, 15, c93, chX 2 2, 343⟩, ⟨A95, 15, c95, chX 4 0, 345⟩, ⟨A97, 15, c97, chX 4 65, 345⟩, ⟨A99, 15, c99, chX 6 0, 345⟩, ⟨A101, 15, c101, chX 9 1, 344⟩, ⟨A107, 16, c107, moreX, 346⟩, ⟨A109, 15, c109, chX 3 0, 347⟩, ⟨A111, 15, c111, chX 8 5, 347⟩] : List Xb).flatMap xbL) rfl (rfl)
 replace I := I.pk [0, 12, 11, 10, 9, 8, 7, 3, 2, 1]
 have hok : ∀ x ∈ ([⟨A91, 15, c91, chX 0 112, 342⟩, ⟨A93, 15, c93, chX 2 2, 343⟩, ⟨A95, 15, c95, chX 4 0, 345⟩, ⟨A97, 15, c97, chX 4 65, 345⟩, ⟨A99, 15, c99, chX 6 0, 345⟩, ⟨A101, 15, c101, chX 9 1, 344⟩, ⟨A107, 16, c107, moreX, 346⟩, ⟨A109, 15, c109, chX 3 0, 347⟩, ⟨A111, 15, c111, chX 8 5, 347⟩] : List Xb), x.Ok := by
   intro x hx; simp only [List.mem_cons, List.not_mem_nil, or_false] at hx
   rcases hx with rfl | rfl | rfl | rfl | rfl | rfl | rfl | rfl | rfl
   · exact ⟨qdd _ _, hc91, (by show 15 ≤ 100; decide), ch_lt de, x1⟩
   · exact ⟨qdd _ _, hc93, (by show 15 ≤ 100; decide), ch_lt de, x2⟩
   · exact ⟨qdd _ _, hc95, (by show 15 ≤ 100; decide), ch_lt de, x3⟩
   · exact ⟨qdd _ _, hc97, (by show 15 ≤ 100; decide), ch_lt de, x4⟩
   · exact ⟨qdd _ _, hc99, (by show 15 ≤ 100; decide), ch_lt de, x5⟩
   · exact ⟨qdd _ _, hc101, (by show 15 ≤ 100; decide), ch_lt de, x6⟩
   · exact ⟨qs7, hc107, (by show 16 ≤ 100; decide), q7o, x7⟩
   · exact ⟨qdd _ _, hc109, (by show 15 ≤ 100; decide), ch_lt de, x8⟩
   · exact ⟨qdd _ _, hc111, (by show 15 ≤ 100; decide), ch_lt de, x9⟩
 obtain ⟨q, hq⟩ : ∃ q : List Xb, q = [⟨A91, 15, c91, chX 0 112, 342⟩, ⟨A93, 15, c93, chX 2 2, 343⟩, ⟨A95, 15, c95, chX 4 0, 345⟩, ⟨A97, 15, c97, chX 4 65, 345⟩, ⟨A99, 15, c99, chX 6 0, 345⟩, ⟨A101, 15, c101, chX 9 1, 344⟩, ⟨A107, 16, c107, moreX, 346⟩, ⟨A109, 15, c109, chX 3 0, 347⟩, ⟨A111, 15, c111, chX 8 5, 347⟩] := ⟨_, rfl⟩
 have hql : q.length = 9 := by rw [hq]; rfl
 rw [← hq] at hok
 replace I : Mem w w113 (.row (vS g113 9 9) 9 (q.flatMap xbL) 122 2 :: xbF 5 q) := by rw [hq]; exact I
 refine Jb Z I ((JG∘JB) fun a Z I => ?_)
 refine qe (fun mS aS wS => ∃ (k : Nat), (k ≤ 9) ∧ mS = 9 - k ∧ Fr aS 130 [] [(115, vI k), (114, vI 9), (113, vS g113 9 9), (90, .bool false), (2, vP g2 0), (1, vS gA16 15 c16), (0, .bool false)] ∧ Mem w wS (.row (vS g113 9 9) 9 (q.flatMap xbL) 122 2 :: xbF 5 q)) (m := 9 - 0) ⟨0, Nat.zero_le _, rfl, Z.sub kr, I.pt 1 [0]⟩ ?_
 clear Z I; rintro mS a w_ ⟨k, hk, rfl, Z, I⟩
 refine Jb Z I ((JP∘Jp 1∘Jj∘JQ) (Ju (fun hb116 => ?_) fun hb116 => ?_))
 ·
  intro a Z I
  have hd116 := of_decide_eq_true hb116
  obtain ⟨x, hx⟩ : ∃ x, q.getD k Xb.zero = x := ⟨_, rfl⟩
  have hxq : x ∈ q := by rw [← hx]; exact qg Xb.zero om
  obtain ⟨hx1, hx2, hx3, hx4, hx5⟩ := hok x hxq
  refine Jb Z I ((JT∘JS'∘JQ∘JB∘JP∘Jy (h:=by exact Yl.ix0 g113 k 2 rfl rfl rfl)∘Jy (v := .agg ((q.getD k Xb.zero).cells)) (h:=by exact Yl.loadS rfl rfl si_xb rfl (fun _ h => h.qge q7s (i := 0) rfl ((getD_at Xb.zero om))))∘Jo (.agg x.cells) (by rw [hx])∘JA #[.slice none 0 0, vI 0]) fun w13 g13 => (JV si_xb O0' (h1:=by exact q90 x)) fun w12_3 => (Jd2∘Jr∘Jg 0 O0∘JL (h:=by exact fun I => qmu _ _ _ _ B _ (hL.mem I hB) (I.le hB) (I.xbAt 2 rfl hxq) hx2 hx1 om hx4 hx5)) ?_)
  rintro I _ w122 ⟨z122, rfl, hz122, _, hm⟩
  refine ⟨_, rfl, _, I.call hm.below, ?_⟩
  refine (Jp 1∘Jx∘Jx∘JA #[vI 0, vI 0, vQ 0, .slice none 0 0, .slice none 0 0, .slice none 0 0, .slice none 0 0, .slice none 0 0]) fun w14 g14 => (JV zb O0' (h1:=by exact qd0 z122)) fun w13_7 => (Jp 1∘Jd6∘Jr∘Jp 1∘Jg 1 O1∘Jp 1∘Jd2∘Jj) (Ju (fun hb128 => ?_) fun hb128 => ?_)
  ·
   intro a Z I
   have hd128 := bne_iff_ne.1 hb128
   exact absurd rfl hd128
  intro a Z I
  have hd128 := bne_eq_false_iff_eq.1 hb128
  refine Jb Z I ((JF∘JS'∘JR∘JaK 1∘Jp 1∘Jd1∘Jq) fun a Z I => ?_)
  exact ⟨_, om, k + 1, by omega, rfl, Z.sub kr, I.pt 3 [2]⟩
 intro a Z I
 have hd116 := of_decide_eq_false hb116
 exact Jb Z I ((JF∘JX∘JG∘JP∘Jp 1∘Jj∘JZ) JY1)
structure UnY (y : List Nat) : Prop where
 err : opnR y = .error 341
 lt : ∀ b ∈ y, b < 256
 few : y.length ≤ 100000000
section
variable {y : List Nat} {c B n : Nat} {A : Option Addr} {w : World} {s : Snm}
theorem UnY.burst (h : SnRight s) {at0 p : Nat} (h0 : at0 < 8 * (sealL (bodyS s)).length) (hp : p % 2 = 1) : UnY (qae (sealL (bodyS s)) at0 p 32) :=
 ⟨q3q h h0 hp, qdb (qdy (qgs s)) _ _ _, by rw [z9]; have := h.len; omega⟩
theorem q70 (h : UnY y) (hn : y.length = n) (hL : LaidX B w) (hB : B ≤ w.heap.size) (hr : Rd w w.heap.size 1 A n (y.map B8)) (hc : n ≤ c) : Calls Tryz.prog 27 #[.slice A n c] w (fun r w' => (∃ z : Snm, r = .returned (.tuple #[.agg z.cells, .int .i64 341])) ∧ Below w.heap.size w w') := by
 subst hn
 have k := qo4 A c y B w hL hB hr hc h.few h.lt
 rw [(rd_no h.err).1] at k
 exact k.mono fun r w' ⟨z, h1, _, _, hm⟩ => ⟨⟨z, h1⟩, hm.below⟩
theorem q71 (h : UnY y) (hn : y.length = n) (hL : LaidX B w) (hB : B ≤ w.heap.size) (hr : Rd w w.heap.size 1 A n (y.map B8)) (hc : n ≤ c) : Calls Tryz.prog 28 #[.slice A n c] w (fun r w' => (∃ (A2 : Option Addr) (c2 : Nat), r = .returned (.tuple #[.slice A2 0 c2, .int .i64 341])) ∧ Below w.heap.size w w') := by
 subst hn
 have k := qhf A c y B w hL hB hr hc h.few h.lt
 rw [qe2 h.err, qsm h.err] at k
 exact k.mono fun r w' ⟨⟨A2, c2, h1, _, _⟩, h2⟩ => ⟨⟨A2, c2, h1⟩, h2⟩
theorem q72 (hl : ∀ b ∈ y, b < 256) (hf : y.length ≤ 100000000) (hn : y.length = n) (hL : LaidX B w) (hB : B ≤ w.heap.size) (hr : Rd w w.heap.size 1 A n (y.map B8)) (hc : n ≤ c) : Calls Tryz.prog 29 #[.slice A n c] w (fun r w' => (∃ (A2 : Option Addr) (n2 c2 : Nat), r = .returned (.tuple #[.slice A2 n2 c2, .int .i64 (errR y : Int)])) ∧ Below w.heap.size w w') := by
 subst hn
 have k := qdr A c y B w hL hB hr hc hf hl
 exact k.mono fun r w' ⟨⟨A2, c2, h1, _, _⟩, h2⟩ => ⟨⟨A2, _, c2, h1⟩, h2⟩
end
theorem q73 (p : Nat) : (p ||| 1) % 2 = 1 := by
 have h : (p ||| 1).testBit 0 = true := by rw [Nat.testBit_or]; simp
 rw [Nat.testBit_zero] at h
 exact of_decide_eq_true h
def a3W (ks : List Nat) : Array Value := #[.int .u32 (ks.getD 0 0 : Int), .int .u32 (ks.getD 1 0 : Int), .int .u32 (ks.getD 2 0 : Int)]
theorem q93 (ks : List Nat) {y : Nat} (hy : y < 3) : (a3W ks)[y]? = some (.int .u32 (ks.getD y 0 : Int)) := by
 have h : y = 0 ∨ y = 1 ∨ y = 2 := by omega
 rcases h with rfl | rfl | rfl <;> rfl
def posM (n : Nat) (ks : List Nat) : List Nat := ks.map fun k => k % (8 * n)
theorem q0j {n : Nat} {ks : List Nat} {i : Nat} (h : i < ks.length) : (posM n ks).getD i 0 = ks.getD i 0 % (8 * n) := by
 unfold posM
 rw [List.getD_eq_getElem?_getD, List.getD_eq_getElem?_getD, List.getElem?_map, List.getElem?_eq_getElem h]
 rfl
theorem q0k {n : Nat} {ks : List Nat} (hn : 0 < n) (h3 : ks.length = 3) : ∀ k, k < 3 → (posM n ks).getD k 0 < 8 * n := fun k hk => by
 rw [q0j om]
 exact Nat.mod_lt _ om
theorem qvt {s : Snm} (h : SnRight s) (h4 : (sealL (bodyS s)).length ≤ 4096) {ks : List Nat} (hn : 0 < (sealL (bodyS s)).length) (h3 : ks.length = 3) : errR (qbr (sealL (bodyS s)) (posM (sealL (bodyS s)).length ks) 3) = 341 :=
 qe2 (q3r h h4 (q0k hn h3))
end Go.Proofs.YtcajpeiobkcliaaGreatDoor
set_option linter.all false
namespace Go.Proofs.YtcajpeiobkcliaaGreatDoor
open Go.RowKit Go.ChangeShapes Go.WideShapes Go.ChangeAt
section
variable {H : Type} {enc : TypeId × Value → H} {W : World} {b0 : Nat} {v : Value} {d : DataW H} {p : List MemPlace}
theorem qq3 {P : Program} {w : World} {r : Reach} {base : Nat} {t e : TypeId} {n : Nat} (ht : P.underlying t = some (.array n e)) (h : Value.okWide P w r base t v) : ∃ cs, v = .agg cs := by
 unfold Value.okWide at h
 rw [ht] at h
 obtain ⟨cs, rfl, _⟩ := h
 exact ⟨cs, rfl⟩
theorem q0l : Tryz.prog.underlying 78 = some (.array 3 22) := by kernel_rfl
theorem q0m : Tryz.prog.cellsOf 78 = 3 := by kernel_rfl
theorem qq4 {cs : List Value} {a b c : Value} (hl : cs.length = 3) (h0 : cs[0]? = some a) (h1 : cs[1]? = some b) (h2 : cs[2]? = some c) : cs = [a, b, c] := by
 match cs, hl with
 | [x, y, z], _ => simp at h0 h1 h2; rw [h0, h1, h2]
set_option maxRecDepth 100000 in
theorem q74 (hval : Value.okWide Tryz.prog W .any b0 78 v) (h : DataW.Trod enc Tryz.prog W 0 (fun _ => true) true 78 v d p) : ∃ ks : List Nat, v = .agg (a3W ks) ∧ ks.length = 3 ∧ ∀ i, ks.getD i 0 < 4294967296 := by
 obtain ⟨cs, rfl⟩ := qq3 q0l hval
 obtain ⟨fuel, hf⟩ := h
 have hf : DataW.trod enc Tryz.prog W 0 (fun _ => true) true fuel 78 cs.toList = some (d, p) := hf
 obtain ⟨xs, m, _, _, hl, hx, hg⟩ := DataW.trod_array q0l hf
 have hl3 : cs.toList.length = 3 := by rw [← q0m]; exact hl
 have el : ∀ i, i < 3 → ∃ k : Nat, cs.toList[i]? = some (.int .u32 (k : Int)) ∧ k < 4294967296 := fun i hi => by
  have g := hg i hi
  rw [qof, Nat.mul_one, List.getElem?_eq_getElem om] at g
  obtain ⟨n, e0, _, w0⟩ := DataW.trod_int qmd g
  have u := qq7 w0
  have a0 := qb4 e0
  exact ⟨n.toNat, by rw [a0, Int.toNat_of_nonneg u.1], by omega⟩
 obtain ⟨k0, a0, u0⟩ := el 0 de
 obtain ⟨k1, a1, u1⟩ := el 1 de
 obtain ⟨k2, a2, u2⟩ := el 2 de
 refine ⟨[k0, k1, k2], ?_, rfl, ?_⟩
 ·congr 1
  apply Array.toList_inj.1
  exact qq4 hl3 a0 a1 a2
 ·intro i
  match i with
  | 0 => exact u0
  | 1 => exact u1
  | 2 => exact u2
  | _ + 3 => show (0 : Nat) < 4294967296; decide
end
end Go.Proofs.YtcajpeiobkcliaaGreatDoor
namespace Go.Proofs.YtcajpeiobkcliaaGreatDoor
open Go.RowKit
theorem q94 : SI Tryz.prog 78 3 := ⟨by kernel_rfl, by kernel_rfl⟩
theorem i64_9 : I64 9 := by unfold I64; decide
theorem qjv (n : Nums) (hn : n.Ok) (Al : Option Addr) (cl : Nat) (l : List Sml) (hl : ∀ x ∈ l, x.Ok) (hcl : l.length ≤ cl) (hnl : l.length ≤ 9223372036854775807) (at0 : Nat) (hat : at0 < 4294967296) (pat : Nat) (hpat : pat < 4294967296) (ks : List Nat) (hk3 : ks.length = 3) (hku : ∀ i, ks.getD i 0 < 4294967296) (B : Nat) (w : World) (hL : LaidX B w) (hB : B ≤ w.heap.size) (hrl : Rd w w.heap.size 8 Al l.length (l.flatMap sml)) :
    Calls Tryz.prog 7 #[.agg n.cells, .slice Al l.length cl, vW at0, vW pat, .agg (a3W ks)] w (Is w (.bool true)) := by
 refine (JN5 Tryz.func7 144) ?_
 refine (JP∘JE) fun w5 g5 => (JE) fun w9 g9 => (Jp 1∘Jj∘JQ∘JP∘JI (h:=by exact fun I => qq2 B _ (hL.mem I hB) (I.le hB))) fun w29 hbw => (Jp 1∘Jd1∘Jq) fun a Z I => ?_
 replace I : Mem w _ (.blk g9 (a3W ks) 78 :: .blk g5 n.cells 27 :: []) := I
 refine Jb Z I ((JG∘JF∘JS'∘JP∘Jy (v := .agg n.cells) (h:=by exact Yl.loadS rfl rfl qy1 (qoe hn) (fun _ h => qb (h.blk (i := 1) rfl)))∘Jp 1∘JL (h:=by exact fun I => qvs n hn Al cl l hl hcl hnl 9 i64_9 _ (I.old hrl))) ?_)
 rintro I _ w34 ⟨p, rfl, hsp, hgp, hip, hnp, hm⟩
 refine ⟨_, rfl, _, (show Mem w w34 (.blk g9 (a3W ks) 78 :: .blk g5 n.cells 27 :: (stF p.st ++ ([]))) from I.joinF (T := []) 2 hm rfl), ?_⟩
 refine (Jp 1∘Jx∘Jx∘JA #[vI 0, vI 0, vQ 0, vN, vN, vN, vN, vN]) fun w11 g11 => (JV zb O0' (h1:=by exact qd0 p)) fun w3_7 => (Jp 1∘Jq) fun a Z I => ?_
 have hln0 := hsp.len
 have hol := qdy (qgs p)
 obtain ⟨f0, hf0⟩ : ∃ f, f = at0 % (8 * (sealL (bodyS p)).length) := ⟨_, rfl⟩
 have hf2 : f0 < 8 * (sealL (bodyS p)).length := by have := Nat.mod_lt at0 (show 0 < 8 * (sealL (bodyS p)).length by omega); omega
 have hq1 : (pat ||| 1) % 2 = 1 := q73 pat
 have hq2 : (pat ||| 1) < 4294967296 := Nat.or_lt_two_pow (n := 32) hpat de
 have hun := UnY.burst (p := (pat ||| 1)) hsp hf2 hq1
 refine Jb Z I ((JG∘JP∘Jy (v := .agg p.cells) (h:=by exact Yl.loadS rfl rfl zb rfl (fun _ h => qb (h.blk (i := 0) rfl)))∘JK (h:=by exact fun I => cw_ok hsp (hL.mem I hB) (I.le hB) (I.st1 3 rfl))) fun A39 c39 w39 hc39 => (Jp 1∘Jx∘Jx∘Jp 2∘Jj∘JQ∘JP∘Jv 8 [(49, .slice A39 ((sealL (bodyS p)).length) c39), (48, .bool false)]∘Jl∘Jp 1∘Jo (.bool false) (by have := hsp.len; simp; omega)∘Jp 1∘Jd5∘Jj∘JF∘JS'∘JP) fun a Z I => ?_)
 refine fo Z 0 rfl rfl ?_
 refine qdg Z I rfl ei_u8 rfl de ?_
 clear Z I; intro a w53 g53 Z I
 refine Jb Z I ((Jp 1∘JD ((sealL (bodyS p)).map B8) 0 (fun _ _ => O0') ei_u8 (hr:=by exact fun I => (I.rd (i := 1) rfl)) (h1:=by exact qj1 _)) fun w55 A55 c55 hc55 => (Jp 1∘Jd3∘Jq) fun a Z I => ?_)
 replace I := I.asRow (i := 0) (ys := (qae (sealL (bodyS p)) f0 (pat ||| 1) 0).map B8) rfl rfl
 obtain ⟨gA55, hgA55⟩ := qm (I.own (i := 0) rfl) om
 revert I; revert a; repeat (first | clear Z | clear I)
 intro a Z I
 subst hgA55
 refine Jb Z I ((JG∘JP∘Jp 1∘Jw .i64∘Jp 1∘Jl∘Jp 1∘Jo (vI (8 * ((sealL (bodyS p)).length) : Nat)) (by exact ze om om)∘Jy (v := vI (at0 % (8 * ((sealL (bodyS p)).length)) : Nat)) (h:=by exact Yl.remN (m := at0) (n := (8 * ((sealL (bodyS p)).length))) rfl rfl rfl om)∘Jo (vI f0) (by rw [hf0])∘Jp 1∘Jd6∘Jj∘JQ∘JP∘Jp 1∘Jj∘JB) fun a Z I => ?_)
 refine qe (fun mS aS wS => ∃ (i : Nat), (i ≤ 32) ∧ mS = 32 - i ∧ Fr aS 144 [] [(62, vI i), (16, vI f0), (15, vS gA55 (0 + ((sealL (bodyS p)).length)) c55), (52, .bool false), (13, .slice A39 ((sealL (bodyS p)).length) c39), (11, vP g11 0), (30, .bool false), (10, .bool false), (9, vP g9 0), (3, vW pat)] ∧ Mem w wS (.row (vS gA55 (0 + ((sealL (bodyS p)).length)) c55) (0 + ((sealL (bodyS p)).length)) ((qae (sealL (bodyS p)) f0 (pat ||| 1) i).map B8) 5 1 :: .row (.slice A39 ((sealL (bodyS p)).length) c39) ((sealL (bodyS p)).length) ((sealL (bodyS p)).map B8) 5 1 :: .blk g11 p.cells 40 :: .blk g9 (a3W ks) 78 :: .blk g5 n.cells 27 :: (stF p.st ++ ([])))) (m := 32 - 0) ⟨0, Nat.zero_le _, rfl, Z.sub kr, I.pt 5 [0, 1, 2, 3, 4]⟩ ?_
 clear Z I; rintro mS a w_ ⟨i, hi, rfl, Z, I⟩
 refine Jb Z I ((JP∘Jp 1∘Jj∘JQ) (Ju (fun hb63 => ?_) fun hb63 => ?_))
 ·
  intro a Z I
  have hd63 := of_decide_eq_true hb63
  have hi32 : i < 32 := by omega
  have hbl := qdb hol f0 (pat ||| 1) i
  have hbn := z9 (sealL (bodyS p)) f0 (pat ||| 1) i
  have hbt := qk2 (f0 + i)
  have hsh : (pat ||| 1) / 2 ^ i < 4294967296 := Nat.lt_of_le_of_lt (Nat.div_le_self _ _) hq2
  refine Jb Z I ((JT∘JS'∘JQ∘JB∘JP∘Jp 2∘Jd1∘Jr∘Jp 2∘Ja∘Jp 1∘Jd3∘Jr∘Jp 2∘Jl∘Jp 1∘Jo (vI (8 * ((sealL (bodyS p)).length) : Nat)) (by exact ze om om)∘Jp 2) (Ju (fun hb73 => ?_) fun hb73 => ?_))
  ·
   intro a Z I
   have hd73 := of_decide_eq_true hb73
   refine Jb Z I ((Jp 2∘Jo (vW (pat ||| 1 : Nat)) (by exact q4a (m := pat) (n := 1) om om)∘Jp 1∘Jy (v := vW ((pat ||| 1) / 2 ^ i : Nat)) (h:=by exact Yl.shrN (m := (pat ||| 1)) (n := i) rfl rfl rfl (by show _ ≤ 32; omega))∘Jp 1∘Jo (vW (((pat ||| 1) / 2 ^ i) % 2 : Nat)) (by exact qlc (n := 1) (j := 1) rfl de om)∘Jp 2∘Jd6∘Jj) (Ju (fun hb80 => ?_) fun hb80 => ?_))
   ·
    intro a Z I
    have hd80 := eq_of_beq hb80
    refine Jb Z I ((JT∘Vs .n [10]) fun wd14 => (Vp [0, 1, 5]∘Vp [2]∘Vo (vI ((f0 + i) / 8 : Nat)) (by exact qce .i64 8 (by show _ ≤ 9223372036854775807; omega))∘Vy 3 (h:=by exact Yl.ix0 gA55 ((f0 + i) / 8) 1 rfl rfl rfl)∘VH (getD_lt hbl (k := ((f0 + i) / 8)) (by first | omega | (simp; omega)))) fun hx3 => (Vy 4 (h:=by exact Yl.r1 0 ((f0 + i) / 8) 0 (by first | omega | (simp; omega)) rfl rfl rfl)∘Vp [6]∘Vo (vI ((f0 + i) % 8 : Nat)) (by exact q8 .i64 _ 8)∘Vy 7 (v := vB (1 * 2 ^ ((f0 + i) % 8) : Nat)) (h:=by exact Yl.shlN (m := 1) (n := ((f0 + i) % 8)) rfl rfl rfl (by show _ ≤ 8; omega) (by have := qk2 (f0 + i); show _ ≤ 255; omega))∘Vp [8]∘Vo (vB (((qae (sealL (bodyS p)) f0 (pat ||| 1) i).getD ((f0 + i) / 8) 0) ^^^ (1 * 2 ^ ((f0 + i) % 8)) : Nat)) (by exact qv9 (m := ((qae (sealL (bodyS p)) f0 (pat ||| 1) i).getD ((f0 + i) / 8) 0)) (n := 1 * 2 ^ ((f0 + i) % 8)) om om)∘Vy 9 (h:=by exact Yl.ix0 gA55 ((f0 + i) / 8) 1 rfl rfl rfl)) fun a Z I HS => ?_)
    refine s_on Z 10 rfl ?_
    refine q5 Z I (i := 0) rfl rfl rfl rfl kr rfl rfl (by simp only [List.length_map]; rw [z9]; omega) ?_
    clear I; intro w14_10 I
    replace I := I.asRow (i := 0) (ys := (qae (sealL (bodyS p)) f0 (pat ||| 1) (i + 1)).map B8) rfl ((qa3 B8 _ ((f0 + i) / 8) _ om).trans (by rw [qae, if_pos ⟨by omega, by omega⟩, Nat.one_mul]; rfl))
    refine noS kr ?_
    refine qc kr ?_
    refine Jb Z I ((JG∘JR∘JaK 1∘Jp 1∘Jd6∘Jq) fun a Z I => ?_)
    exact ⟨_, om, i + 1, by omega, rfl, Z.sub kr, I.pt 5 [0, 1, 2, 3, 4]⟩
   intro a Z I
   have hd80 := ne_of_beq_false hb80
   replace I := I.asRow (i := 0) (ys := (qae (sealL (bodyS p)) f0 (pat ||| 1) (i + 1)).map B8) rfl (by rw [qae, if_neg om])
   refine Jb Z I ((JF∘JS'∘JR∘JaK 1∘Jp 1∘Jd1∘Jq) fun a Z I => ?_)
   exact ⟨_, om, i + 1, by omega, rfl, Z.sub kr, I.pt 5 [0, 1, 2, 3, 4]⟩
  intro a Z I
  have hd73 := of_decide_eq_false hb73
  replace I := I.asRow (i := 0) (ys := (qae (sealL (bodyS p)) f0 (pat ||| 1) (i + 1)).map B8) rfl (by rw [qae, if_neg om])
  refine Jb Z I ((Jp 7∘Jd6∘Jj∘JF∘JS'∘JR∘JaK 1∘Jp 1∘Jd1∘Jq) fun a Z I => ?_)
  exact ⟨_, om, i + 1, by omega, rfl, Z.sub kr, I.pt 5 [0, 1, 2, 3, 4]⟩
 intro a Z I
 have hd63 := of_decide_eq_false hb63
 revert I; revert a; repeat (first | clear Z | clear I)
 intro a Z I
 obtain rfl : i = 32 := by omega
 refine Jb Z I ((JF∘JX∘JG∘JP) fun a Z I => ?_)
 refine fo Z 0 rfl rfl ?_
 refine qdg Z I rfl ei_u8 rfl de ?_
 clear Z I; intro a w92 g92 Z I
 refine Jb Z I ((Jp 1∘JD ((sealL (bodyS p)).map B8) 0 (fun _ _ => O0') ei_u8 (hr:=by exact fun I => (I.rd (i := 2) rfl)) (h1:=by exact qj1 _)) fun w94 A94 c94 hc94 => (Jp 1∘Jd3∘Jq) fun a Z I => ?_)
 replace I := I.asRow (i := 0) (ys := (qbr (sealL (bodyS p)) (posM (sealL (bodyS p)).length ks) 0).map B8) rfl rfl
 obtain ⟨gA94, hgA94⟩ := qm (I.own (i := 0) rfl) om
 revert I; revert a; repeat (first | clear Z | clear I)
 intro a Z I
 subst hgA94
 refine Jb Z I ((JG∘JQ∘JP∘Jy (v := .agg (a3W ks)) (h:=by exact Yl.loadS rfl rfl q94 rfl (fun _ h => qb (h.blk (i := 4) rfl)))∘Jp 1∘Jj∘JB) fun a Z I => ?_)
 refine qe (fun mS aS wS => ∃ (i : Nat), (i ≤ 3) ∧ mS = 3 - i ∧ Fr aS 144 [] [(96, vI i), (95, .agg (a3W ks)), (19, vS gA94 (0 + ((sealL (bodyS p)).length)) c94), (63, .bool false), (62, vI 32), (16, vI f0), (15, vS gA55 (0 + ((sealL (bodyS p)).length)) c55), (52, .bool false), (13, .slice A39 ((sealL (bodyS p)).length) c39), (11, vP g11 0), (30, .bool false), (10, .bool false), (3, vW pat)] ∧ Mem w wS (.row (vS gA94 (0 + ((sealL (bodyS p)).length)) c94) (0 + ((sealL (bodyS p)).length)) ((qbr (sealL (bodyS p)) (posM (sealL (bodyS p)).length ks) i).map B8) 5 1 :: .row (vS gA55 (0 + ((sealL (bodyS p)).length)) c55) (0 + ((sealL (bodyS p)).length)) ((qae (sealL (bodyS p)) f0 (pat ||| 1) 32).map B8) 5 1 :: .row (.slice A39 ((sealL (bodyS p)).length) c39) ((sealL (bodyS p)).length) ((sealL (bodyS p)).map B8) 5 1 :: .blk g11 p.cells 40 :: .blk g9 (a3W ks) 78 :: .blk g5 n.cells 27 :: (stF p.st ++ ([])))) (m := 3 - 0) ⟨0, Nat.zero_le _, rfl, Z.sub kr, I.pt 6 [0, 1, 2, 3, 4, 5]⟩ ?_
 clear Z I; rintro mS a w_ ⟨i, hi, rfl, Z, I⟩
 refine Jb Z I ((JP∘Jp 1∘Jj∘JQ) (Ju (fun hb97 => ?_) fun hb97 => ?_))
 ·
  intro a Z I
  have hd97 := of_decide_eq_true hb97
  have hi3 : i < 3 := by omega
  have hbl := qcb hol (posM (sealL (bodyS p)).length ks) i
  have hbn := qaa (sealL (bodyS p)) (posM (sealL (bodyS p)).length ks) i
  obtain ⟨bp, hp⟩ : ∃ z, z = (posM (sealL (bodyS p)).length ks).getD i 0 := ⟨_, rfl⟩
  have hp1 := q0k (n := (sealL (bodyS p)).length) om hk3 i hi3
  have hp2 := q0j (n := (sealL (bodyS p)).length) (ks := ks) (i := i) om
  rw [← hp] at hp1 hp2
  have hbt := qk2 bp
  have hku := hku i
  refine Jb Z I ((JT∘JS'∘JQ∘JB∘JP∘Jy (v := vW (ks.getD i 0 : Nat)) (h:=by exact Yl.q0q (m := 3) (y := i) rfl rfl rfl kr om (q93 ks om))∘Jp 1∘Jd1∘Jr∘Jp 1∘Jw .i64∘Jp 1∘Jl∘Jp 1∘Jo (vI (8 * ((sealL (bodyS p)).length) : Nat)) (by exact ze om om)∘Jy (v := vI ((ks.getD i 0) % (8 * ((sealL (bodyS p)).length)) : Nat)) (h:=by exact Yl.remN (m := (ks.getD i 0)) (n := (8 * ((sealL (bodyS p)).length))) rfl rfl rfl om)∘Jo (vI bp) (by rw [hp2])∘Jp 1∘Jd6∘Jj∘Vs .n [10]) fun wd21 => (Vp [0, 1, 5]∘Vp [2]∘Vo (vI (bp / 8 : Nat)) (by exact qce .i64 8 (by show _ ≤ 9223372036854775807; omega))∘Vy 3 (h:=by exact Yl.ix0 gA94 (bp / 8) 1 rfl rfl rfl)∘VH (getD_lt hbl (k := (bp / 8)) (by first | omega | (simp; omega)))) fun hx6 => (Vy 4 (h:=by exact Yl.r1 0 (bp / 8) 0 (by first | omega | (simp; omega)) rfl rfl rfl)∘Vp [6]∘Vo (vI (bp % 8 : Nat)) (by exact q8 .i64 _ 8)∘Vy 7 (v := vB (1 * 2 ^ (bp % 8) : Nat)) (h:=by exact Yl.shlN (m := 1) (n := (bp % 8)) rfl rfl rfl (by show _ ≤ 8; omega) (by have := qk2 bp; show _ ≤ 255; omega))∘Vp [8]∘Vo (vB (((qbr (sealL (bodyS p)) (posM (sealL (bodyS p)).length ks) i).getD (bp / 8) 0) ^^^ (1 * 2 ^ (bp % 8)) : Nat)) (by exact qv9 (m := ((qbr (sealL (bodyS p)) (posM (sealL (bodyS p)).length ks) i).getD (bp / 8) 0)) (n := 1 * 2 ^ (bp % 8)) om om)∘Vy 9 (h:=by exact Yl.ix0 gA94 (bp / 8) 1 rfl rfl rfl)) fun a Z I HS => ?_)
  refine s_on Z 10 rfl ?_
  refine q5 Z I (i := 0) rfl rfl rfl rfl kr rfl rfl (by simp only [List.length_map]; rw [qaa]; omega) ?_
  clear I; intro w21_10 I
  replace I := I.asRow (i := 0) (ys := (qbr (sealL (bodyS p)) (posM (sealL (bodyS p)).length ks) (i + 1)).map B8) rfl ((qa3 B8 _ (bp / 8) _ om).trans (by rw [qbr, ← hp, Nat.one_mul]; rfl))
  refine noS kr ?_
  refine qc kr ?_
  refine Jb Z I ((JG∘JR∘JaK 1∘Jp 1∘Jd6∘Jq) fun a Z I => ?_)
  exact ⟨_, om, i + 1, by omega, rfl, Z.sub kr, I.pt 6 [0, 1, 2, 3, 4, 5]⟩
 intro a Z I
 have hd97 := of_decide_eq_false hb97
 revert I; revert a; repeat (first | clear Z | clear I)
 intro a Z I
 obtain rfl : i = 3 := by omega
 refine Jb Z I ((JF∘JX∘JG∘JP∘Jp 1∘JL (h:=by exact fun I => q70 hun ((z9 _ _ _ _).trans (Nat.zero_add _).symm) (hL.mem I hB) (I.le hB) (I.rd (i := 1) rfl) hc55)) ?_)
 rintro I _ w118 ⟨⟨z118, rfl⟩, hbw⟩
 refine ⟨_, rfl, _, I.call hbw, ?_⟩
 refine (Jp 1∘Jx∘Jx∘JA #[vI 0, vI 0, vQ 0, vN, vN, vN, vN, vN]) fun w23 g23 => (JV zb O0' (h1:=by exact qd0 z118)) fun w23_6 => (Jp 1∘Jd6∘Jr∘Jp 1∘JL (h:=by exact fun I => q71 hun ((z9 _ _ _ _).trans (Nat.zero_add _).symm) (hL.mem I hB) (I.le hB) (I.rd (i := 2) rfl) hc55)) ?_
 rintro I _ w123 ⟨⟨A123, c123, rfl⟩, hbw⟩
 refine ⟨_, rfl, _, I.call hbw, ?_⟩
 refine (Jp 1∘Jx∘Jx∘Jp 2∘Jd6∘Jj∘JQ∘JP∘Jv 6 [(131, .bool false)]∘Jd2∘Jj∘JF∘JS'∘JP∘Jp 1∘JL (h:=by exact fun I => q72 (qcb (qdy (qgs p)) _ _) (by rw [qaa]; omega) ((qaa _ _ _).trans (Nat.zero_add _).symm) (hL.mem I hB) (I.le hB) (I.rd (i := 1) rfl) hc94)) ?_
 rintro I _ w134 ⟨⟨A134, n134, c134, rfl⟩, hbw⟩
 refine ⟨_, rfl, _, I.call hbw, ?_⟩
 refine (Jp 1∘Jx∘Jx∘Jp 2∘Jd6∘Jr∘Jp 1∘Jl∘Jp 2) (Ji (fun hd140 => ?_) fun hd140 => ?_)
 ·
  exact (Jp 4∘Jd6∘Jj∘JZ) JY1
 exact (Jp 2∘Jo (.bool true) (by rw [qvt hsp om om hk3]; try rfl)∘Jp 2∘Jd6∘Jj∘JZ) JY1
end Go.Proofs.YtcajpeiobkcliaaGreatDoor
