/- Parts. -/
import Derived.Test.YtcajpeiobkcliaaGreatDoorQdZ4
set_option linter.all false
set_option maxRecDepth 100000
set_option maxHeartbeats 4000000
namespace Go.Proofs.YtcajpeiobkcliaaGreatDoor
open Go.RowKit
def chX (i v : Nat) : List Nat := sealL (byA.set i v)
def fstX : List Nat := sealL byA
def moreX : List Nat := sealL (byA ++ [0])
def badX : List Nat := fstX.set 12 ((fstX.getD 12 0 + 1) % 256)
theorem qat : fstX.length = 15 := by kernel_rfl
theorem qdb (i v : Nat) : (chX i v).length = 15 := by unfold chX; rw [qbz, List.length_set]; rfl
theorem qtf : moreX.length = 16 := by unfold moreX; rw [qbz]; rfl
theorem qtg : ∀ z ∈ byA, z < 256 := by decide
theorem qo6 : ∀ z ∈ fstX, z < 256 := qdj qtg
theorem q0d {l : List Nat} {i v : Nat} (hl : ∀ z ∈ l, z < 256) (hv : v < 256) : ∀ z ∈ l.set i v, z < 256 := by
 intro z hz
 rcases List.mem_or_eq_of_mem_set hz with h | h
 ·exact hl z h
 ·omega
theorem ch_lt {i v : Nat} (hv : v < 256) : ∀ z ∈ chX i v, z < 256 := qdj (q0d qtg hv)
theorem q7o : ∀ z ∈ moreX, z < 256 := qdj de
theorem q9t : ∀ z ∈ badX, z < 256 := q0d qo6 (Nat.mod_lt _ de)
theorem q7p : badX.length = 15 := by unfold badX; rw [List.length_set]; exact qat
theorem x_ok : rdE fstX = 0 := by kernel_rfl
theorem q9u : (rdS fstX).next = 1 := by kernel_rfl
theorem q9v : (rdS fstX).st.cpus = 1 := by kernel_rfl
theorem x_cl : (rdS fstX).st.cl.length = 1 := by kernel_rfl
theorem x_err : errR fstX = 0 := by kernel_rfl
theorem q9w : (pnums fstX).length = 8 := by kernel_rfl
theorem q9x : difE fstX (chX 3 2) = 0 := by kernel_rfl
theorem q9y : difN fstX (chX 3 2) = ⟨#[110, 101, 120, 116]⟩ := by kernel_rfl
theorem q7q : rdE (fstX.take 14) = 340 := by kernel_rfl
theorem x_sum : rdE badX = 341 := by kernel_rfl
theorem x1 : rdE (chX 0 112) = 342 := by kernel_rfl
theorem x2 : rdE (chX 2 2) = 343 := by kernel_rfl
theorem x3 : rdE (chX 4 0) = 345 := by kernel_rfl
theorem x4 : rdE (chX 4 65) = 345 := by kernel_rfl
theorem x5 : rdE (chX 6 0) = 345 := by kernel_rfl
theorem x6 : rdE (chX 9 1) = 344 := by kernel_rfl
theorem x7 : rdE moreX = 346 := by kernel_rfl
theorem x8 : rdE (chX 3 0) = 347 := by kernel_rfl
theorem x9 : rdE (chX 8 5) = 347 := by kernel_rfl
theorem q7r {i v : Nat} (hi : i < 11) : ((fstX.set i v).take 11) = byA.set i v := by
 unfold fstX sealL
 rw [List.set_append_left _ _ (show i < byA.length from hi), List.take_append_of_le_length (by rw [List.length_set]; exact Nat.le_refl 11), List.take_of_length_le (by rw [List.length_set]; exact Nat.le_refl 11)]
theorem q36 : fstX.take 11 = byA := by
 unfold fstX sealL
 rw [List.take_append_of_le_length (Nat.le_refl 11)]
 rfl
structure Xb where
 A : Option Addr
 n : Nat
 c : Nat
 l : List Nat
 e : Nat
def Xb.zero : Xb := ⟨none, 0, 0, [], 0⟩
def xbL (x : Xb) : List Value := [.slice x.A x.n x.c, .int .i64 (x.e : Int)]
def Xb.cells (x : Xb) : Array Value := #[.slice x.A x.n x.c, .int .i64 (x.e : Int)]
theorem q7s (x : Xb) : (xbL x).length = 2 := rfl
theorem q9z (x : Xb) : ∀ v ∈ x.cells.toList, v.oneCell' = true := by simp [Xb.cells, Value.oneCell']
def Xb.own (x : Xb) : Own := ⟨x.A, x.n, x.c, x.l.map B8⟩
def xbF (t : TypeId) (q : List Xb) : List Fact := ownsF t 1 (q.map Xb.own)
def Xb.Ok (x : Xb) : Prop := x.l.length = x.n ∧ x.n ≤ x.c ∧ x.n ≤ 100 ∧ (∀ z ∈ x.l, z < 256) ∧ rdE x.l = x.e
theorem q7t {t : TypeId} {q : List Xb} {x : Xb} (hq : x ∈ q) : Fact.row (.slice x.A x.n x.c) x.n (x.l.map B8) t 1 ∈ xbF t q := List.mem_map_of_mem (List.mem_map_of_mem hq)
theorem Mem.xbAt {W w : World} {fs : List Fact} {t : TypeId} {q : List Xb} (n : Nat) (h : Mem W w fs) (he : fs.drop n = xbF t q) {x : Xb} (hx : x ∈ q) : Rd w w.heap.size 1 x.A x.n (x.l.map B8) :=
 h.rdMem (List.mem_of_mem_drop (he ▸ q7t hx))
theorem si_xb : SI Tryz.prog 122 2 := ⟨by kernel_rfl, by kernel_rfl⟩
theorem ei_xb : EI Tryz.prog 124 122 (.agg Xb.zero.cells) 2 32 := ⟨by kernel_rfl, by kernel_rfl, rfl, by omega⟩
theorem q39 (A : Option Addr) (c : Nat) (w : World) (hr : Rd w w.heap.size 1 A 11 (byA.map B8)) : Calls Tryz.prog 56 #[.slice A 11 c] w (fun r w' => (∃ A c, r = .returned (.slice A 15 c) ∧ w'.ownsRow w.heap.size 5 1 (.slice A 15 c) 15 (fstX.map B8) ∧ 15 ≤ c) ∧ Below w.heap.size w w') := by
 have h := qg3 A 11 c byA w hr rfl de qtg
 unfold qch at h
 rwa [show (sealL byA).length = 15 from qat] at h
theorem q7y (i v : Nat) (hv : v < 256) (A : Option Addr) (c : Nat) (w : World) (hr : Rd w w.heap.size 1 A 11 ((byA.set i v).map B8)) : Calls Tryz.prog 56 #[.slice A 11 c] w (fun r w' => (∃ A c, r = .returned (.slice A 15 c) ∧ w'.ownsRow w.heap.size 5 1 (.slice A 15 c) 15 ((chX i v).map B8) ∧ 15 ≤ c) ∧ Below w.heap.size w w') := by
 have h := qg3 A 11 c (byA.set i v) w hr (by rw [List.length_set]; rfl) de (q0d qtg hv)
 unfold qch at h
 rwa [show (sealL (byA.set i v)).length = 15 from qdb i v] at h
theorem q0o (A : Option Addr) (c : Nat) (w : World) (hr : Rd w w.heap.size 1 A 12 ((byA ++ [0]).map B8)) : Calls Tryz.prog 56 #[.slice A 12 c] w (fun r w' => (∃ A c, r = .returned (.slice A 16 c) ∧ w'.ownsRow w.heap.size 5 1 (.slice A 16 c) 16 (moreX.map B8) ∧ 16 ≤ c) ∧ Below w.heap.size w w') := by
 have h := qg3 A 12 c (byA ++ [0]) w hr rfl de de
 unfold qch at h
 rwa [show (sealL (byA ++ [0])).length = 16 from qtf] at h
theorem qmx (A : Option Addr) (n c : Nat) (l : List Nat) (B : Nat) (w : World) (hL : LaidX B w) (hB : B ≤ w.heap.size) (hr : Rd w w.heap.size 1 A n (l.map B8)) (hc : n ≤ c) (hln : l.length = n) (hn : n ≤ 100000000) (hl : ∀ z ∈ l, z < 256) {e : Nat} (h : rdE l = e) : Calls Tryz.prog 27 #[.slice A n c] w (qs8 w e (rdS l)) := by
 subst hln; subst h
 exact q0c A c l B w hL hB hr hc hn hl
theorem numsX (A : Option Addr) (c : Nat) (B : Nat) (w : World) (hL : LaidX B w) (hB : B ≤ w.heap.size) (hr : Rd w w.heap.size 1 A 15 (fstX.map B8)) (hc : 15 ≤ c) : Calls Tryz.prog 28 #[.slice A 15 c] w (fun r w' => (∃ A c, r = .returned (.tuple #[.slice A 8 c, .int .i64 0])) ∧ Below w.heap.size w w') := by
 rw [← qat] at hr hc ⊢
 refine (qo5 A c fstX B w hL hB hr hc (by rw [qat]; decide) qo6).mono fun r w' h => ?_
 obtain ⟨⟨A2, c2, h1, _, _⟩, h2⟩ := h
 rw [x_err, q9w] at h1
 exact ⟨⟨A2, c2, h1⟩, h2⟩
theorem difX (A : Option Addr) (c : Nat) (D : Option Addr) (d : Nat) (B : Nat) (w : World) (hL : LaidX B w) (hB : B ≤ w.heap.size) (hr : Rd w w.heap.size 1 A 15 (fstX.map B8)) (hc : 15 ≤ c) (hr2 : Rd w w.heap.size 1 D 15 ((chX 3 2).map B8)) (hd : 15 ≤ d) : Calls Tryz.prog 31 #[.slice A 15 c, .slice D 15 d] w (Is w (.tuple #[.string ⟨#[110, 101, 120, 116]⟩, .int .i64 0])) := by
 have h := qhk A c fstX D d (chX 3 2) B w hL hB (by rw [qat]; exact hr) (by rw [qat]; exact hc) (by rw [qat]; decide) qo6 (by rw [qdb]; exact hr2) (by rw [qdb]; exact hd) (by rw [qdb]; decide) (ch_lt de)
 rw [q9x, q9y, qat, qdb] at h
 exact h
theorem qg4 (w : World) :
    Calls Tryz.prog 54 #[] w (fun r w' => (∃ A c, r = .returned (.slice A 15 c) ∧ w'.ownsRow w.heap.size 5 1 (.slice A 15 c) 15 (fstX.map B8) ∧ 15 ≤ c) ∧ Below w.heap.size w w') := by
 refine (JN0 Tryz.func54 4) ?_
 refine (JP∘Jp 1∘Jr∘JU ei_u8 #[vB 113, vB 115, vB 1, vB 1, vB 1, vB 0, vB 1, vB 0, vB 0, vB 0, vB 0]) fun w1 g1 => fun a Z I => ?_
 refine fo Z 1 rfl rfl ?_
 refine q4l Z I 0 (e := 5) rfl rfl rfl kr kr rfl de ?_
 clear Z I; intro a w2 Z I
 exact Jb Z I ((JK (h:=by exact fun I => q39 (some ⟨g1, 0, none⟩) 11 _ (I.rdMark (i := 0) (size := 1) (n := 11) rfl rfl))) fun A3 c3 w3 hc3 => (Jp 1∘Jd3∘Jj∘JZ∘Jz1) fun I => by exact ⟨⟨_, _, rfl, I.own (i := 0) rfl, hc3⟩, I.below⟩)
theorem z9 (i v : Nat) (hi : i < 11) (hv : v < 256) (w : World) :
    Calls Tryz.prog 55 #[.int .i64 (i : Int), .int .u8 (v : Int)] w (fun r w' => (∃ A c, r = .returned (.slice A 15 c) ∧ w'.ownsRow w.heap.size 5 1 (.slice A 15 c) 15 ((chX i v).map B8) ∧ 15 ≤ c) ∧ Below w.heap.size w w') := by
 refine (JN2 Tryz.func55 17) ?_
 refine (JP∘Jp 1∘Jr∘JK (h:=by exact fun I => qg4 _)) fun A6 c6 w6 hc6 => (Jp 1∘Jd1∘Jq) ?_
 repeat (first | clear Z | clear I)
 intro a Z I
 obtain ⟨gA6, rfl⟩ := qq (I.own (i := 0) rfl) (Nat.lt_of_le_of_lt (Nat.zero_le _) (show i < 15 from (by omega : i < 15)))
 refine Jb Z I ((JG∘JP∘Jp 3∘Jy (h:=by exact Yl.ix0 gA6 i 1 rfl rfl rfl)) fun a Z I => ?_)
 refine fo Z 4 rfl rfl ?_
 refine q7 Z I (i := 0) rfl rfl rfl rfl kr rfl rfl (by rw [List.length_map, qat]; omega) ?_
 clear I; intro w2_4 I
 replace I := I.asRow (i := 0) (ys := (fstX.set i v).map B8) rfl (qb7 B8 fstX i v (by rw [qat]; omega))
 exact Jb Z I ((Jt4∘Jr∘Jp 2∘Jl∘Jv 1 [(14, vI 11)]∘Jy (h:=by exact Yl.qao ei_u8 (j := 11) rfl rfl rfl om)∘JK (h:=by exact fun I => q7y i v hv (some ⟨gA6, 0, none⟩) c6 _ (by have h1 := (I.rd (i := 0) rfl).toB8 (k := 11) om; rw [q7r hi] at h1; exact h1))) fun A16 c16 w16 hc16 => (Jp 1∘Jd6∘Jj∘JZ∘Jz1) fun I => by exact ⟨⟨_, _, rfl, I.own (i := 0) rfl, hc16⟩, I.below⟩)
theorem qq7 (B : Nat) (w : World) (hL : LaidX B w) (hB : B ≤ w.heap.size) :
    Calls Tryz.prog 26 #[] w (Is w (.bool true)) := by
 refine (JN0 Tryz.func26 130) ?_
 refine (JP∘Jp 1∘Jr∘JK (h:=by exact fun I => qg4 _)) fun A16 c16 w16 hc16 => (Jp 1∘Jd1∘Jq) ?_
 repeat (first | clear Z | clear I)
 intro a Z I
 obtain ⟨gA16, rfl⟩ := qq (I.own (i := 0) rfl) (Nat.lt_of_le_of_lt (Nat.zero_le _) (show 12 < 15 from (by omega : 12 < 15)))
 refine Jb Z I ((JG∘JP∘Jp 1∘JL (h:=by exact fun I => qmx (some ⟨gA16, 0, none⟩) 15 c16 fstX B _ (hL.mem I hB) (I.le hB) (I.rd (i := 0) rfl) hc16 qat de qo6 x_ok)) ?_)
 rintro I _ w19 ⟨z19, rfl, hz19, _, hm⟩
 refine ⟨_, rfl, _, I.call hm.below, ?_⟩
 refine (Jp 1∘Jx∘Jx∘JA #[vI 0, vI 0, vQ 0, .slice none 0 0, .slice none 0 0, .slice none 0 0, .slice none 0 0, .slice none 0 0]) fun w2 g2 => (JV qz O0' (h1:=by exact qd0 z19)) fun w2_6 => (Jp 1∘Jr∘Jp 1∘JL (h:=by exact fun I => numsX (some ⟨gA16, 0, none⟩) c16 B _ (hL.mem I hB) (I.le hB) (I.rd (i := 1) rfl) hc16)) ?_
 rintro I _ w24 ⟨⟨AN, cN, rfl⟩, hbw⟩
 refine ⟨_, rfl, _, I.call hbw, ?_⟩
 refine (Jp 1∘Jx∘Jx∘Jp 2∘Jr∘Jp 1∘JK (h:=by exact fun I => z9 3 2 de de _)) fun A29 c29 w29 hc29 => (JI (h:=by exact fun I => difX (some ⟨gA16, 0, none⟩) c16 A29 c29 B _ (hL.mem I hB) (I.le hB) (I.rd (i := 2) rfl) hc16 (I.rd (i := 0) rfl) hc29)) fun w30 hbw => (Jp 1∘Jx∘Jx∘Jp 2∘Jr∘Jp 1∘Jy (h:=by exact Yl.qao ei_u8 (j := 14) rfl rfl rfl om)∘JL (h:=by exact fun I => qmx (some ⟨gA16, 0, none⟩) 14 c16 (fstX.take 14) B _ (hL.mem I hB) (I.le hB) ((I.rd (i := 2) rfl).toB8 (k := 14) de) om (by rw [List.length_take, qat]; rfl) de (qll qo6 _) q7q)) ?_
 rintro I _ w36 ⟨z36, rfl, hz36, _, hm⟩
 refine ⟨_, rfl, _, I.call hm.below, ?_⟩
 refine (Jp 1∘Jx∘Jx∘JA #[vI 0, vI 0, vQ 0, .slice none 0 0, .slice none 0 0, .slice none 0 0, .slice none 0 0, .slice none 0 0]) fun w8 g8 => (JV qz O0' (h1:=by exact qd0 z36)) fun w5_7 => (Jp 1∘Jd6∘Jr∘Jp 1∘Jy (v := vP gA16 12) (h:=by exact Yl.indexAddr (ad := ⟨gA16, 0, none⟩) (y := 12) (sz := 1) rfl rfl rfl om kr)∘Jy (h:=by exact Yl.r1 3 12 0 (by rw [qat]; decide) rfl rfl rfl)∘Jp 1∘Jo (vB ((fstX.getD 12 0 + 1) % 256 : Nat)) (by exact qen _)∘Jy (v := vP gA16 12) (h:=by exact Yl.indexAddr (ad := ⟨gA16, 0, none⟩) (y := 12) (sz := 1) rfl rfl rfl om kr)) fun a Z I => ?_
 refine fo Z 5 rfl rfl ?_
 refine q7 Z I (i := 3) rfl rfl rfl rfl kr rfl rfl (by rw [List.length_map, qat]; decide) ?_
 clear I; intro w6_5 I
 replace I := I.asRow (i := 3) (ys := badX.map B8) rfl (qb7 B8 fstX 12 ((fstX.getD 12 0 + 1) % 256) (by rw [qat]; decide))
 refine Jb Z I ((Jt5∘Jr∘Jp 1∘JL (h:=by exact fun I => qmx (some ⟨gA16, 0, none⟩) 15 c16 badX B _ (hL.mem I hB) (I.le hB) (I.rd (i := 3) rfl) hc16 q7p de q9t x_sum)) ?_)
 rintro I _ w46 ⟨z46, rfl, hz46, _, hm⟩
 refine ⟨_, rfl, _, I.call hm.below, ?_⟩
 refine (Jp 1∘Jx∘Jx∘JA #[vI 0, vI 0, vQ 0, .slice none 0 0, .slice none 0 0, .slice none 0 0, .slice none 0 0, .slice none 0 0]) fun w10 g10 => (JV qz O0' (h1:=by exact qd0 z46)) fun w7_6 => (Jp 1∘Jd6∘Jj∘JQ∘JP∘Jv 7 [(55, .bool false)]∘Jf 0∘Jc O3∘Jo (vI 1) (by rw [← hz19.1, q9u])∘Jv 3 [(60, .bool false)]∘Jf 1∘Jf 0∘Jf 0∘Jc O3∘Jo (vI 1) (by rw [← hz19.2.1, q9v])∘Jv 3 [(67, .bool false)]∘Jf 1∘Jg 3 O3∘Jl∘Jo (vI 1) (by rw [← hz19.2.2.2.2.1, x_cl]; try rfl)∘Jv 4 [(75, .slice AN 8 cN), (74, .bool false)]∘Jl∘Jv 5 [(81, .bool (!(((ByteArray.mk #[110, 101, 120, 116])).toList == ((ByteArray.mk #[110, 101, 120, 116])).toList))), (79, .bool false)]∘Jo (.bool false) (by exact congrArg Value.bool (q35 _))∘Jv 9 [(90, .bool false)]∘Jd6∘Jj∘JF∘JS'∘JQ∘JP∘JK (h:=by exact fun I => z9 0 112 de de _)) fun A91 c91 w91 hc91 => (Jy (v := .agg #[.slice A91 15 c91, vI 342]) (h:=by exact Yl.build (vs := [(0, .slice A91 15 c91), (1, vI 342)]) rfl kr kr)∘JK (h:=by exact fun I => z9 2 2 de de _)) fun A93 c93 w93 hc93 => (Jy (v := .agg #[.slice A93 15 c93, vI 343]) (h:=by exact Yl.build (vs := [(0, .slice A93 15 c93), (1, vI 343)]) rfl kr kr)∘JK (h:=by exact fun I => z9 4 0 de de _)) fun A95 c95 w95 hc95 => (Jy (v := .agg #[.slice A95 15 c95, vI 345]) (h:=by exact Yl.build (vs := [(0, .slice A95 15 c95), (1, vI 345)]) rfl kr kr)∘JK (h:=by exact fun I => z9 4 65 de de _)) fun A97 c97 w97 hc97 => (Jy (v := .agg #[.slice A97 15 c97, vI 345]) (h:=by exact Yl.build (vs := [(0, .slice A97 15 c97), (1, vI 345)]) rfl kr kr)∘JK (h:=by exact fun I => z9 6 0 de de _)) fun A99 c99 w99 hc99 => (Jy (v := .agg #[.slice A99 15 c99, vI 345]) (h:=by exact Yl.build (vs := [(0, .slice A99 15 c99), (1, vI 345)]) rfl kr kr)∘JK (h:=by exact fun I => z9 9 1 de de _)) fun A101 c101 w101 hc101 => (Jy (v := .agg #[.slice A101 15 c101, vI 344]) (h:=by exact Yl.build (vs := [(0, .slice A101 15 c101), (1, vI 344)]) rfl kr kr)∘JK (h:=by exact fun I => qg4 _)) fun A103 c103 w103 hc103 => ?_
 repeat (first | clear Z | clear I)
 intro a Z I
 obtain ⟨gA103, rfl⟩ := qq (I.own (i := 0) rfl) (Nat.lt_of_le_of_lt (Nat.zero_le _) (show 0 < 15 from (by omega : 0 < 15)))
 refine Jb Z I ((Jy (v := vS gA103 11 11) (h:=by exact Yl.q77 ei_u8 (j := 11) (q := 11) rfl rfl rfl rfl om om)∘JU ei_u8 #[vB 0]) fun w105 g105 => fun a Z I => ?_)
 refine fo Z 15 rfl rfl ?_
 refine qfg Z I (xs := byA.map B8) (news := [0].map B8) rfl ei_u8 rfl rfl ((by have h1 := (I.rd (i := 1) rfl).toB8 (k := 11) de; rw [q36] at h1; exact h1)) (I.rdBlk (i := 0) (size := 1) (n := 1) rfl rfl) om om (fun h => by cases h) om om rfl de ?_
 clear Z I; intro a w106 g106 c106 Z I hc106
 replace I := I.asRow (i := 0) (ys := (byA ++ [0]).map B8) rfl (rfl)
 refine Jb Z I ((JK (h:=by exact fun I => q0o (some ⟨g106, 0, none⟩) c106 _ (I.rd (i := 0) rfl))) fun A107 c107 w107 hc107 => (Jy (v := .agg #[.slice A107 16 c107, vI 346]) (h:=by exact Yl.build (vs := [(0, .slice A107 16 c107), (1, vI 346)]) rfl kr kr)∘JK (h:=by exact fun I => z9 3 0 de de _)) fun A109 c109 w109 hc109 => (Jy (v := .agg #[.slice A109 15 c109, vI 347]) (h:=by exact Yl.build (vs := [(0, .slice A109 15 c109), (1, vI 347)]) rfl kr kr)∘JK (h:=by exact fun I => z9 8 5 de de _)) fun A111 c111 w111 hc111 => (Jy (v := .agg #[.slice A111 15 c111, vI 347]) (h:=by exact Yl.build (vs := [(0, .slice A111 15 c111), (1, vI 347)]) rfl kr kr)∘JU ei_xb #[.slice A91 15 c91, vI 342, .slice A93 15 c93, vI 343, .slice A95 15 c95, vI 345, .slice A97 15 c97, vI 345, .slice A99 15 c99, vI 345, .slice A101 15 c101, vI 344, .slice A107 16 c107, vI 346, .slice A109 15 c109, vI 347, .slice A111 15 c111, vI 347]) fun w113 g113 => (Jl∘Jp 1∘Jq) fun a Z I => ?_)
 replace Z := Z.to [(115, vI 0), (114, vI 9), (113, vS g113 9 9), (90, .bool false), (2, vP g2 0), (1, vS gA16 15 c16), (0, .bool false)]
 replace I := (I.blkRow (i := 0) (n := 9) (size := 2) rfl rfl de).asRow (i := 0) (ys := ([⟨A91, 15, c91, chX 0 112, 342⟩, ⟨A93, 15, c93, chX 2 2, 343⟩, ⟨A95, 15, c95, chX 4 0, 345⟩, ⟨A97, 15, c97, chX 4 65, 345⟩, ⟨A99, 15, c99, chX 6 0, 345⟩, ⟨A101, 15, c101, chX 9 1, 344⟩, ⟨A107, 16, c107, moreX, 346⟩, ⟨A109, 15, c109, chX 3 0, 347⟩, ⟨A111, 15, c111, chX 8 5, 347⟩] : List Xb).flatMap xbL) rfl (rfl)
 replace I := I.pk [0, 12, 11, 10, 9, 8, 7, 3, 2, 1]
 have hok : ∀ x ∈ ([⟨A91, 15, c91, chX 0 112, 342⟩, ⟨A93, 15, c93, chX 2 2, 343⟩, ⟨A95, 15, c95, chX 4 0, 345⟩, ⟨A97, 15, c97, chX 4 65, 345⟩, ⟨A99, 15, c99, chX 6 0, 345⟩, ⟨A101, 15, c101, chX 9 1, 344⟩, ⟨A107, 16, c107, moreX, 346⟩, ⟨A109, 15, c109, chX 3 0, 347⟩, ⟨A111, 15, c111, chX 8 5, 347⟩] : List Xb), x.Ok := by
   intro x hx; simp only [List.mem_cons, List.not_mem_nil, or_false] at hx
   rcases hx with rfl | rfl | rfl | rfl | rfl | rfl | rfl | rfl | rfl
   · exact ⟨qdb _ _, hc91, (by show 15 ≤ 100; decide), ch_lt de, x1⟩
   · exact ⟨qdb _ _, hc93, (by show 15 ≤ 100; decide), ch_lt de, x2⟩
   · exact ⟨qdb _ _, hc95, (by show 15 ≤ 100; decide), ch_lt de, x3⟩
   · exact ⟨qdb _ _, hc97, (by show 15 ≤ 100; decide), ch_lt de, x4⟩
   · exact ⟨qdb _ _, hc99, (by show 15 ≤ 100; decide), ch_lt de, x5⟩
   · exact ⟨qdb _ _, hc101, (by show 15 ≤ 100; decide), ch_lt de, x6⟩
   · exact ⟨qtf, hc107, (by show 16 ≤ 100; decide), q7o, x7⟩
   · exact ⟨qdb _ _, hc109, (by show 15 ≤ 100; decide), ch_lt de, x8⟩
   · exact ⟨qdb _ _, hc111, (by show 15 ≤ 100; decide), ch_lt de, x9⟩
 obtain ⟨q, hq⟩ : ∃ q : List Xb, q = [⟨A91, 15, c91, chX 0 112, 342⟩, ⟨A93, 15, c93, chX 2 2, 343⟩, ⟨A95, 15, c95, chX 4 0, 345⟩, ⟨A97, 15, c97, chX 4 65, 345⟩, ⟨A99, 15, c99, chX 6 0, 345⟩, ⟨A101, 15, c101, chX 9 1, 344⟩, ⟨A107, 16, c107, moreX, 346⟩, ⟨A109, 15, c109, chX 3 0, 347⟩, ⟨A111, 15, c111, chX 8 5, 347⟩] := ⟨_, rfl⟩
 have hql : q.length = 9 := by rw [hq]; rfl
 rw [← hq] at hok
 replace I : Mem w w113 (.row (vS g113 9 9) 9 (q.flatMap xbL) 122 2 :: xbF 5 q) := by rw [hq]; exact I
 refine Jb Z I ((JG∘JB) fun a Z I => ?_)
 refine qe (fun mS aS wS => ∃ (k : Nat), (k ≤ 9) ∧ mS = 9 - k ∧ Fr aS 130 [] [(115, vI k), (114, vI 9), (113, vS g113 9 9), (90, .bool false), (2, vP g2 0), (1, vS gA16 15 c16), (0, .bool false)] ∧ Mem w wS (.row (vS g113 9 9) 9 (q.flatMap xbL) 122 2 :: xbF 5 q)) (m := 9 - 0) ⟨0, Nat.zero_le _, rfl, Z.sub kr, I.pt 1 [0]⟩ ?_
 clear Z I; rintro mS a w_ ⟨k, hk, rfl, Z, I⟩
 refine Jb Z I ((JP∘Jp 1∘Jj∘JQ) (Ju (fun hb116 => ?_) fun hb116 => ?_))
 ·
  intro a Z I
  have hd116 := of_decide_eq_true hb116
  obtain ⟨x, hx⟩ : ∃ x, q.getD k Xb.zero = x := ⟨_, rfl⟩
  have hxq : x ∈ q := by rw [← hx]; exact qf Xb.zero om
  obtain ⟨hx1, hx2, hx3, hx4, hx5⟩ := hok x hxq
  refine Jb Z I ((JT∘JS'∘JQ∘JB∘JP∘Jy (h:=by exact Yl.ix0 g113 k 2 rfl rfl rfl)∘Jy (v := .agg ((q.getD k Xb.zero).cells)) (h:=by exact Yl.loadS rfl rfl si_xb rfl (fun _ h => h.qgd q7s (i := 0) rfl ((getD_at Xb.zero om))))∘Jo (.agg x.cells) (by rw [hx])∘JA #[.slice none 0 0, vI 0]) fun w13 g13 => (JV si_xb O0' (h1:=by exact q9z x)) fun w12_3 => (Jd2∘Jr∘Jg 0 O0∘JL (h:=by exact fun I => qmx _ _ _ _ B _ (hL.mem I hB) (I.le hB) (I.xbAt 2 rfl hxq) hx2 hx1 om hx4 hx5)) ?_)
  rintro I _ w122 ⟨z122, rfl, hz122, _, hm⟩
  refine ⟨_, rfl, _, I.call hm.below, ?_⟩
  refine (Jp 1∘Jx∘Jx∘JA #[vI 0, vI 0, vQ 0, .slice none 0 0, .slice none 0 0, .slice none 0 0, .slice none 0 0, .slice none 0 0]) fun w14 g14 => (JV qz O0' (h1:=by exact qd0 z122)) fun w13_7 => (Jp 1∘Jd6∘Jr∘Jp 1∘Jg 1 O1∘Jp 1∘Jd2∘Jj) (Ju (fun hb128 => ?_) fun hb128 => ?_)
  ·
   intro a Z I
   have hd128 := bne_iff_ne.1 hb128
   exact absurd rfl hd128
  intro a Z I
  have hd128 := bne_eq_false_iff_eq.1 hb128
  refine Jb Z I ((JF∘JS'∘JR∘JaK 1∘Jp 1∘Jd1∘Jq) fun a Z I => ?_)
  exact ⟨_, om, k + 1, by omega, rfl, Z.sub kr, I.pt 3 [2]⟩
 intro a Z I
 have hd116 := of_decide_eq_false hb116
 exact Jb Z I ((JF∘JX∘JG∘JP∘Jp 1∘Jj∘JZ) JY1)
theorem qpb (l : List Nat) (X : List Sec) : ∀ f i, difF l l X X f i = ⟨#[]⟩
 | 0, _ => rfl
 | f + 1, i => by rw [difF, if_pos rfl, qpb l X f (i + 1)]
section
variable {s : Snm} {c d B : Nat} {A D : Option Addr} {w : World}
theorem SnRight.mill (h : SnRight s) : (sealL (bodyS s)).length ≤ 100000000 := by have := h.len; omega
theorem qdc (s : Snm) : (secsS s).length = 9 := rfl
end
section
variable {s p q : Snm} {tail a b : List Nat} {X Y : List Sec}
theorem q0p {j : Nat} (hj : j < 7) : cutB (bodyS s ++ tail) ⟨qa j, atS s j, atS s (j + 1)⟩ = (secN s j).flatMap vbytes := by
 unfold cutB
 show ((bodyS s ++ tail).take (atS s (j + 1))).drop (atS s j) = _
 rw [List.drop_take, qcm hj, qa8, Nat.add_sub_cancel_left, List.take_left' rfl]
theorem qtt (s : Snm) {j : Nat} (hj : j < 7) : (secsS s).getD (j + 1) Sec.zero = ⟨qa j, atS s j, atS s (j + 1)⟩ := by
 match j, hj with
 | 0, _ | 1, _ | 2, _ | 3, _ | 4, _ | 5, _ | 6, _ => rfl
theorem q70 (p q : Snm) : ∀ i, ((secsS p).getD i Sec.zero).nm = ((secsS q).getD i Sec.zero).nm
 | 0 => rfl
 | 1 => rfl
 | 2 => rfl
 | 3 => rfl
 | 4 => rfl
 | 5 => rfl
 | 6 => rfl
 | 7 => rfl
 | 8 => rfl
 | i + 9 => by
  rw [List.getD_eq_getElem?_getD, List.getD_eq_getElem?_getD, List.getElem?_eq_none (by rw [qdc]; omega), List.getElem?_eq_none (by rw [qdc]; omega)]
theorem q0q (p : Snm) {i : Nat} (h : i < 9) : ((secsS p).getD i Sec.zero).nm ≠ ⟨#[]⟩ := by
 match i, h with
 | 0, _ => exact fun h => absurd (show (4 : Nat) = 0 from congrArg (fun x : ByteArray => x.data.size) h) de
 | 1, _ => exact fun h => absurd (show (4 : Nat) = 0 from congrArg (fun x : ByteArray => x.data.size) h) de
 | 2, _ => exact fun h => absurd (show (6 : Nat) = 0 from congrArg (fun x : ByteArray => x.data.size) h) de
 | 3, _ => exact fun h => absurd (show (6 : Nat) = 0 from congrArg (fun x : ByteArray => x.data.size) h) de
 | 4, _ => exact fun h => absurd (show (6 : Nat) = 0 from congrArg (fun x : ByteArray => x.data.size) h) de
 | 5, _ => exact fun h => absurd (show (7 : Nat) = 0 from congrArg (fun x : ByteArray => x.data.size) h) de
 | 6, _ => exact fun h => absurd (show (5 : Nat) = 0 from congrArg (fun x : ByteArray => x.data.size) h) de
 | 7, _ => exact fun h => absurd (show (5 : Nat) = 0 from congrArg (fun x : ByteArray => x.data.size) h) de
 | 8, _ => exact fun h => absurd (show (3 : Nat) = 0 from congrArg (fun x : ByteArray => x.data.size) h) de
theorem qtu (hn : ∀ i, (X.getD i Sec.zero).nm = (Y.getD i Sec.zero).nm) : ∀ f i, difF a b X Y f i = difF b a Y X f i
 | 0, _ => rfl
 | f + 1, i => by
  rw [difF, difF, qtu hn f (i + 1), hn i]
  by_cases h : cutB a (X.getD i Sec.zero) = cutB b (Y.getD i Sec.zero)
  ·rw [if_pos h, if_pos h.symm]
  ·rw [if_neg h, if_neg fun h1 => h h1.symm]
theorem qpc : ∀ f i, (∀ j, i ≤ j → j < i + f → (X.getD j Sec.zero).nm ≠ ⟨#[]⟩) → difF a b X Y f i = ⟨#[]⟩ → ∀ j, i ≤ j → j < i + f → cutB a (X.getD j Sec.zero) = cutB b (Y.getD j Sec.zero)
 | 0, i, _, _ => fun j h1 h2 => absurd h2 om
 | f + 1, i, hn, h => fun j h1 h2 => by
  rw [difF] at h
  by_cases hc : cutB a (X.getD i Sec.zero) = cutB b (Y.getD i Sec.zero)
  ·rw [if_pos hc] at h
   rcases Nat.lt_or_ge i j with h3 | h3
   ·exact qpc f (i + 1) (fun k h4 h5 => hn k om om) h j om om
   ·rw [show j = i by omega]; exact hc
  ·rw [if_neg hc] at h
   exact absurd h (hn i (Nat.le_refl _) om)
theorem q71 (hp : SnRight p) (hq : SnRight q) : difE (sealL (bodyS p)) (sealL (bodyS q)) = 0 ∧ difN (sealL (bodyS p)) (sealL (bodyS q)) = difF (sealL (bodyS p)) (sealL (bodyS q)) (secsS p) (secsS q) 9 0 := by
 have h := q43 (qmp hp (by have := hp.len; omega)) (qmp hq (by have := hq.len; omega))
 exact ⟨h.1, h.2⟩
theorem q0r (hp : SnRight p) (hq : SnRight q) : difF (sealL (bodyS p)) (sealL (bodyS q)) (secsS p) (secsS q) 9 0 = ⟨#[]⟩ ↔ SnEq p q := by
 constructor
 ·intro h
  have h1 := qpc 9 0 (fun j _ hj => q0q p om) h
  refine (hp.nums hq).1 ?_
  unfold numsS
  refine qz0 fun j hj => ?_
  have h2 := h1 (j + 1) (Nat.zero_le _) om
  rw [qtt p hj, qtt q hj] at h2
  unfold sealL at h2
  rw [q0p hj, q0p hj] at h2
  exact qjj (qiu hp.ok hp.few j) (qiu hq.ok hq.few j) h2
 ·intro h
  have h1 := (hp.out hq).2 h
  have h2 : secsS q = secsS p := by
   have h3 := q54 h
   rwa [qhr hp.chk, qhr hq.chk] at h3
  rw [← h1, h2, qpb]
end
theorem nmB0 : ((⟨#[104, 101, 97, 100]⟩ : ByteArray).toList == ByteArray.toList ⟨#[]⟩) = false := by kernel_rfl
theorem nmB1 : ((qa 0).toList == ByteArray.toList ⟨#[]⟩) = false := by kernel_rfl
theorem nmB2 : ((qa 1).toList == ByteArray.toList ⟨#[]⟩) = false := by kernel_rfl
theorem nmB3 : ((qa 2).toList == ByteArray.toList ⟨#[]⟩) = false := by kernel_rfl
theorem nmB4 : ((qa 3).toList == ByteArray.toList ⟨#[]⟩) = false := by kernel_rfl
theorem nmB5 : ((qa 4).toList == ByteArray.toList ⟨#[]⟩) = false := by kernel_rfl
theorem nmB6 : ((qa 5).toList == ByteArray.toList ⟨#[]⟩) = false := by kernel_rfl
theorem nmB7 : ((qa 6).toList == ByteArray.toList ⟨#[]⟩) = false := by kernel_rfl
theorem nmB8 : ((⟨#[115, 117, 109]⟩ : ByteArray).toList == ByteArray.toList ⟨#[]⟩) = false := by kernel_rfl
section
variable {p q : Snm} {a b : List Nat} {X Y : List Sec} {A D : Option Addr} {c e B : Nat} {w : World}
theorem nmB (p : Snm) {i : Nat} (h : i < 9) : (((secsS p).getD i Sec.zero).nm.toList == ByteArray.toList ⟨#[]⟩) = false := by
 match i, h with
 | 0, _ => exact nmB0
 | 1, _ => exact nmB1
 | 2, _ => exact nmB2
 | 3, _ => exact nmB3
 | 4, _ => exact nmB4
 | 5, _ => exact nmB5
 | 6, _ => exact nmB6
 | 7, _ => exact nmB7
 | 8, _ => exact nmB8
theorem qtv : ∀ f i, difF a b X Y f i = ⟨#[]⟩ ∨ ∃ j, i ≤ j ∧ j < i + f ∧ difF a b X Y f i = (X.getD j Sec.zero).nm
 | 0, _ => .inl rfl
 | f + 1, i => by
  rw [difF]
  split
  ·rcases qtv f (i + 1) with h | ⟨j, h1, h2, h3⟩
   ·exact .inl h
   ·exact .inr ⟨j, by omega, by omega, h3⟩
  ·exact .inr ⟨i, Nat.le_refl _, by omega, rfl⟩
theorem q72 (hp : SnRight p) (hq : SnRight q) {d : ByteArray} (hd : difF (sealL (bodyS p)) (sealL (bodyS q)) (secsS p) (secsS q) 9 0 = d) : (d.toList == ByteArray.toList ⟨#[]⟩) = decide (SnEq p q) := by
 rcases qtv (a := sealL (bodyS p)) (b := sealL (bodyS q)) (X := secsS p) (Y := secsS q) 9 0 with h | ⟨j, _, h2, h3⟩
 ·have h1 := (q0r hp hq).1 h
  rw [hd] at h
  rw [h, decide_eq_true h1]
  exact beq_self_eq_true _
 ·have h1 : ¬ SnEq p q := fun hh => q0q p (show j < 9 by omega) (h3.symm.trans ((q0r hp hq).2 hh))
  rw [hd] at h3
  rw [h3, decide_eq_false h1]
  exact nmB p om
theorem q48 (hp : SnRight p) (hq : SnRight q) {d : ByteArray} (hd : difF (sealL (bodyS p)) (sealL (bodyS q)) (secsS p) (secsS q) 9 0 = d) (hL : LaidX B w) (hB : B ≤ w.heap.size) (hr : Rd w w.heap.size 1 A (sealL (bodyS p)).length ((sealL (bodyS p)).map B8)) (hc : (sealL (bodyS p)).length ≤ c) (hr2 : Rd w w.heap.size 1 D (sealL (bodyS q)).length ((sealL (bodyS q)).map B8)) (he : (sealL (bodyS q)).length ≤ e) : Calls Tryz.prog 31 #[.slice A (sealL (bodyS p)).length c, .slice D (sealL (bodyS q)).length e] w (Is w (.tuple #[.string d, .int .i64 0])) := by
 have k := qhk A c (sealL (bodyS p)) D e (sealL (bodyS q)) B w hL hB hr hc hp.mill (qdj (qew p)) hr2 he hq.mill (qdj (qew q))
 have h2 := q71 hp hq
 rw [h2.1, h2.2, hd] at k
 exact k
theorem q92 (hp : SnRight p) (hq : SnRight q) {d : ByteArray} (hd : difF (sealL (bodyS p)) (sealL (bodyS q)) (secsS p) (secsS q) 9 0 = d) (hL : LaidX B w) (hB : B ≤ w.heap.size) (hr : Rd w w.heap.size 1 A (sealL (bodyS p)).length ((sealL (bodyS p)).map B8)) (hc : (sealL (bodyS p)).length ≤ c) (hr2 : Rd w w.heap.size 1 D (sealL (bodyS q)).length ((sealL (bodyS q)).map B8)) (he : (sealL (bodyS q)).length ≤ e) : Calls Tryz.prog 31 #[.slice D (sealL (bodyS q)).length e, .slice A (sealL (bodyS p)).length c] w (Is w (.tuple #[.string d, .int .i64 0])) :=
 q48 hq hp (by rw [← hd]; exact qtu (q70 q p) 9 0) hL hB hr2 he hr hc
end
theorem qhm (n : Nums) (hn_ : n.Ok) (m : Nums) (hm_ : m.Ok) (Ak : Option Addr) (ck : Nat) (k : List Sml) (hk : ∀ x ∈ k, x.Ok) (hck : k.length ≤ ck) (hnk : k.length ≤ 9223372036854775807) (Al : Option Addr) (cl : Nat) (l : List Sml) (hl : ∀ x ∈ l, x.Ok) (hcl : l.length ≤ cl) (hnl : l.length ≤ 9223372036854775807) (x : Int) (hIx : I64 x) (y : Int) (hIy : I64 y) (B : Nat) (w : World) (hL : LaidX B w) (hB : B ≤ w.heap.size) (hrk : Rd w w.heap.size 8 Ak k.length (k.flatMap sml)) (hrl : Rd w w.heap.size 8 Al l.length (l.flatMap sml)) :
    Calls Tryz.prog 10 #[.agg n.cells, .agg m.cells, .slice Ak k.length ck, .slice Al l.length cl, vI x, vI y] w (Is w (.bool true)) := by
 refine (JN6 Tryz.func10 223) ?_
 refine (JP∘JE) fun w6 g6 => (JE) fun w7 g7 => (Jp 1∘Jj∘JQ∘JP∘JI (h:=by exact fun I => qq7 B _ (hL.mem I hB) (I.le hB))) fun w30 hbw => (Jp 1∘Jd1∘Jq) fun a Z I => ?_
 replace I : Mem w _ (.blk g7 m.cells 27 :: .blk g6 n.cells 27 :: []) := I
 refine Jb Z I ((JG∘JF∘JS'∘JP∘Jy (v := .agg n.cells) (h:=by exact Yl.loadS rfl rfl qqn (qje hn_) (fun _ h => qb (h.blk (i := 1) rfl)))∘Jp 2∘JL (h:=by exact fun I => qlc n hn_ Ak ck k hk hck hnk x hIx _ (I.old hrk))) ?_)
 rintro I _ w36 ⟨p, rfl, hsp, hgp, hip, hnp, hm⟩
 refine ⟨_, rfl, _, (show Mem w w36 (.blk g7 m.cells 27 :: .blk g6 n.cells 27 :: (stF p.st ++ ([]))) from I.joinF (T := []) 2 hm rfl), ?_⟩
 refine (Jp 1∘Jx∘Jx∘JA #[vI 0, vI 0, vQ 0, vN, vN, vN, vN, vN]) fun w13 g13 => (JV qz O0' (h1:=by exact qd0 p)) fun w3_8 => (Jp 1∘Jr∘Jy (v := .agg m.cells) (h:=by exact Yl.loadS rfl rfl qqn (qje hm_) (fun _ h => qb (h.blk (i := 1) rfl)))∘Jp 2∘JL (h:=by exact fun I => qlc m hm_ Al cl l hl hcl hnl y hIy _ (I.old hrl))) ?_
 rintro I _ w43 ⟨q, rfl, hsq, hgq, hiq, hnq, hm⟩
 refine ⟨_, rfl, _, (show Mem w w43 (.blk g13 p.cells 40 :: .blk g7 m.cells 27 :: .blk g6 n.cells 27 :: (stF q.st ++ (stF p.st ++ ([])))) from I.joinF (T := (stF p.st ++ ([]))) 3 hm rfl), ?_⟩
 refine (Jp 1∘Jx∘Jx∘JA #[vI 0, vI 0, vQ 0, vN, vN, vN, vN, vN]) fun w15 g15 => (JV qz O0' (h1:=by exact qd0 q)) fun w4_8 => (Jp 1∘Jr∘Jy (v := .agg p.cells) (h:=by exact Yl.loadS rfl rfl qz rfl (fun _ h => qb (h.blk (i := 1) rfl)))∘JK (h:=by exact fun I => cw_ok hsp (hL.mem I hB) (I.le hB) (I.st2 4 rfl))) fun A48 c48 w48 hc48 => (Jp 1∘Jx∘Jx∘Jp 2∘Jr∘Jy (v := .agg q.cells) (h:=by exact Yl.loadS rfl rfl qz rfl (fun _ h => qb (h.blk (i := 1) rfl)))∘JK (h:=by exact fun I => cw_ok hsq (hL.mem I hB) (I.le hB) (I.st1 5 rfl))) fun A53 c53 w53 hc53 => (Jp 1∘Jx∘Jx∘Jp 2∘Jr∘Jy (v := .agg p.cells) (h:=by exact Yl.loadS rfl rfl qz rfl (fun _ h => qb (h.blk (i := 3) rfl)))∘JK (h:=by exact fun I => qzv hsp (I.st2 6 rfl))) fun A58 c58 w58 hc58 => (Jp 1∘Jx∘Jx∘Jp 2∘Jr∘Jy (v := .agg q.cells) (h:=by exact Yl.loadS rfl rfl qz rfl (fun _ h => qb (h.blk (i := 3) rfl)))∘JK (h:=by exact fun I => qzv hsq (I.st1 7 rfl))) fun A63 c63 w63 hc63 => (Jp 1∘Jx∘Jx∘Jp 2∘Jq) fun a Z I => ?_
 replace Z := Z.to [(24, vI 0), (23, .slice A63 ((secsS q).length) c63), (22, vI 0), (21, .slice A58 ((secsS p).length) c58), (20, vI 0), (19, .slice A53 ((sealL (bodyS q)).length) c53), (18, vI 0), (17, .slice A48 ((sealL (bodyS p)).length) c48), (16, .bool true), (15, vP g15 0), (14, .bool true), (13, vP g13 0), (31, .bool false), (12, .bool false)]
 have hln0 := hsp.len
 have hln1 := hsq.len
 have hs9 := qdc p
 have hs8 := qdc q
 obtain ⟨d, hd⟩ : ∃ z, difF (sealL (bodyS p)) (sealL (bodyS q)) (secsS p) (secsS q) 9 0 = z := ⟨_, rfl⟩
 refine Jb Z I ((JG∘JP∘Jp 2∘JI (h:=by exact fun I => q48 hsp hsq hd (hL.mem I hB) (I.le hB) (I.rd (i := 3) rfl) hc48 (I.rd (i := 2) rfl) hc53)) fun w69 hbw => (Jp 1∘Jx∘Jx∘Jp 2∘Jr∘Jp 2∘JI (h:=by exact fun I => q92 hsp hsq hd (hL.mem I hB) (I.le hB) (I.rd (i := 3) rfl) hc48 (I.rd (i := 2) rfl) hc53)) fun w75 hbw => (Jp 1∘Jx∘Jx∘Jp 2∘Jj∘JQ∘JP∘Jv 22 [(99, .slice A58 ((secsS p).length) c58), (98, .bool false)]∘Jl∘Jp 1∘Jo (.bool false) (by simp [qdc])∘Jp 3∘Jl∘Jp 1∘Jo (.bool false) (by simp [qdc])∘Jp 5∘Jo (.bool false) (by simp)∘Jp 4∘Jo (.bool (decide (SnEq p q))) (by rw [q72 hsp hsq hd])∘Jy (v := .agg p.cells) (h:=by exact Yl.loadS rfl rfl qz rfl (fun _ h => qb (h.blk (i := 5) rfl)))∘Jy (v := .agg q.cells) (h:=by exact Yl.loadS rfl rfl qz rfl (fun _ h => qb (h.blk (i := 4) rfl)))∘JI (h:=by exact fun I => qzs p q _ (I.st2 8 rfl) (I.st1 8 rfl) hsp.few hsq.few)) fun w118 hbw => (Jy (v := .bool (!((decide (SnEq p q)) == (decide (SnEq p q))))) (h:=by exact Yl.q73 rfl rfl rfl kr)∘Jo (.bool false) (by simp)∘Jp 1∘Jd6∘Jj∘JF∘JS'∘JQ∘JP∘Jp 1∘Jl∘Jp 1∘Jj∘JB) fun a Z I => ?_)
 refine qe (fun mS aS wS => ∃ (i : Nat), (i ≤ 9) ∧ (d = difF (sealL (bodyS p)) (sealL (bodyS q)) (secsS p) (secsS q) (9 - i) i) ∧ mS = 9 - i ∧ Fr aS 223 [] [(123, vI i), (122, vI ((secsS p).length : Nat)), (120, .bool false), (25, .string d), (23, .slice A63 ((secsS q).length) c63), (21, .slice A58 ((secsS p).length) c58), (19, .slice A53 ((sealL (bodyS q)).length) c53), (17, .slice A48 ((sealL (bodyS p)).length) c48), (15, vP g15 0), (13, vP g13 0), (31, .bool false), (12, .bool false)] ∧ Mem w wS (.row (.slice A63 ((secsS q).length) c63) ((secsS q).length) ((secsS q).flatMap secL) 69 3 :: .row (.slice A58 ((secsS p).length) c58) ((secsS p).length) ((secsS p).flatMap secL) 69 3 :: .row (.slice A53 ((sealL (bodyS q)).length) c53) ((sealL (bodyS q)).length) ((sealL (bodyS q)).map B8) 5 1 :: .row (.slice A48 ((sealL (bodyS p)).length) c48) ((sealL (bodyS p)).length) ((sealL (bodyS p)).map B8) 5 1 :: .blk g15 q.cells 40 :: .blk g13 p.cells 40 :: .blk g7 m.cells 27 :: .blk g6 n.cells 27 :: (stF q.st ++ (stF p.st ++ ([]))))) (m := 9 - 0) ⟨0, Nat.zero_le _, hd.symm, rfl, Z.sub kr, I.pt 8 [0, 1, 2, 3, 4, 5, 6, 7]⟩ ?_
 clear Z I; rintro mS a w_ ⟨i, hi, hdd, rfl, Z, I⟩
 refine Jb Z I ((JP∘Jp 1∘Jj∘JQ) (Ju (fun hb124 => ?_) fun hb124 => ?_))
 ·
  intro a Z I
  have hd124 := of_decide_eq_true hb124
  have hpi := qs3 (qdj (qew p)) (qmp hsp om) (i := i) (by show i < 9; omega)
  have hqi := qs3 (qdj (qew q)) (qmp hsq om) (i := i) (by show i < 9; omega)
  replace hpi : ((secsS p).getD i Sec.zero).fr ≤ ((secsS p).getD i Sec.zero).to ∧ ((secsS p).getD i Sec.zero).to ≤ (sealL (bodyS p)).length := hpi
  replace hqi : ((secsS q).getD i Sec.zero).fr ≤ ((secsS q).getD i Sec.zero).to ∧ ((secsS q).getD i Sec.zero).to ≤ (sealL (bodyS q)).length := hqi
  refine Jb Z I ((JT∘JS'∘JQ∘JB∘JP∘Jp 2∘Jd1∘Jj∘JQ) fun a Z I => ?_)
  refine wp_seq ?_
  refine Jb Z I ((Vs .n []) fun wd16 => (Vp [0, 1]) ?_)
  repeat (first | clear Z | clear I | clear HS)
  intro a Z I HS
  obtain ⟨gA58, rfl⟩ := qq (I.own (i := 1) rfl) (Nat.lt_of_le_of_lt (Nat.zero_le _) (show i < (secsS p).length from by omega))
  refine Vb Z I HS ((Vy 2 (h:=by exact Yl.ix0 gA58 i 3 rfl rfl rfl)∘Vf 3 1∘Vy 4 (v := vI (((secsS p).getD i Sec.zero).fr)) (h:=by exact Yl.qp rfl rfl kr (fun _ h => h.qk ze (i := 1) rfl (k := i) (off := 1) (x := ((secsS p).getD i Sec.zero)) ((getD_at Sec.zero (k := i) (by first | omega | (simp; omega)))) rfl))∘Vq [5] [(131, .bool (decide ((((secsS p).getD i Sec.zero).fr : Int) < (0 : Int))))]∘Vo (.bool false) (by exact congrArg Value.bool (decide_eq_false om))∘Vp [6, 7, 8, 12, 13]∘Vy 9 (h:=by exact Yl.ix0 gA58 i 3 rfl rfl rfl)∘Vf 10 1∘Vy 11 (v := vI (((secsS p).getD i Sec.zero).fr)) (h:=by exact Yl.qp rfl rfl kr (fun _ h => h.qk ze (i := 1) rfl (k := i) (off := 1) (x := ((secsS p).getD i Sec.zero)) ((getD_at Sec.zero (k := i) (by first | omega | (simp; omega)))) rfl))∘Vy 14 (h:=by exact Yl.ix0 gA58 i 3 rfl rfl rfl)∘Vf 15 2∘Vy 16 (v := vI (((secsS p).getD i Sec.zero).to)) (h:=by exact Yl.qp rfl rfl kr (fun _ h => h.qk ze (i := 1) rfl (k := i) (off := 2) (x := ((secsS p).getD i Sec.zero)) ((getD_at Sec.zero (k := i) (by first | omega | (simp; omega)))) rfl))∘Vq [17] [(143, .bool (decide ((((secsS p).getD i Sec.zero).fr : Int) > (((secsS p).getD i Sec.zero).to : Int))))]∘Vo (.bool false) (by exact congrArg Value.bool (decide_eq_false om))∘Vp [18, 19, 20, 21, 25]∘Vy 22 (h:=by exact Yl.ix0 gA58 i 3 rfl rfl rfl)∘Vf 23 2∘Vy 24 (v := vI (((secsS p).getD i Sec.zero).to)) (h:=by exact Yl.qp rfl rfl kr (fun _ h => h.qk ze (i := 1) rfl (k := i) (off := 2) (x := ((secsS p).getD i Sec.zero)) ((getD_at Sec.zero (k := i) (by first | omega | (simp; omega)))) rfl))∘Vl 26∘Vq [27] [(153, .bool (decide ((((secsS p).getD i Sec.zero).to : Int) > (((sealL (bodyS p)).length : Nat) : Int))))]∘Vo (.bool false) (by exact congrArg Value.bool (decide_eq_false om))∘Vp [28, 29, 30, 31]) ?_)
  repeat (first | clear Z | clear I | clear HS)
  intro a Z I HS
  obtain ⟨gA63, rfl⟩ := qq (I.own (i := 0) rfl) (Nat.lt_of_le_of_lt (Nat.zero_le _) (show i < (secsS q).length from by omega))
  refine Vb Z I HS ((Vy 32 (h:=by exact Yl.ix0 gA63 i 3 rfl rfl rfl)∘Vf 33 1∘Vy 34 (v := vI (((secsS q).getD i Sec.zero).fr)) (h:=by exact Yl.qp rfl rfl kr (fun _ h => h.qk ze (i := 0) rfl (k := i) (off := 1) (x := ((secsS q).getD i Sec.zero)) ((getD_at Sec.zero (k := i) (by first | omega | (simp; omega)))) rfl))∘Vq [35] [(161, .bool (decide ((((secsS q).getD i Sec.zero).fr : Int) < (0 : Int))))]∘Vo (.bool false) (by exact congrArg Value.bool (decide_eq_false om))∘Vp [36, 37, 38, 39, 43, 44]∘Vy 40 (h:=by exact Yl.ix0 gA63 i 3 rfl rfl rfl)∘Vf 41 1∘Vy 42 (v := vI (((secsS q).getD i Sec.zero).fr)) (h:=by exact Yl.qp rfl rfl kr (fun _ h => h.qk ze (i := 0) rfl (k := i) (off := 1) (x := ((secsS q).getD i Sec.zero)) ((getD_at Sec.zero (k := i) (by first | omega | (simp; omega)))) rfl))∘Vy 45 (h:=by exact Yl.ix0 gA63 i 3 rfl rfl rfl)∘Vf 46 2∘Vy 47 (v := vI (((secsS q).getD i Sec.zero).to)) (h:=by exact Yl.qp rfl rfl kr (fun _ h => h.qk ze (i := 0) rfl (k := i) (off := 2) (x := ((secsS q).getD i Sec.zero)) ((getD_at Sec.zero (k := i) (by first | omega | (simp; omega)))) rfl))∘Vq [48] [(174, .bool (decide ((((secsS q).getD i Sec.zero).fr : Int) > (((secsS q).getD i Sec.zero).to : Int))))]∘Vo (.bool false) (by exact congrArg Value.bool (decide_eq_false om))∘Vp [49, 50, 51, 52, 56]∘Vy 53 (h:=by exact Yl.ix0 gA63 i 3 rfl rfl rfl)∘Vf 54 2∘Vy 55 (v := vI (((secsS q).getD i Sec.zero).to)) (h:=by exact Yl.qp rfl rfl kr (fun _ h => h.qk ze (i := 0) rfl (k := i) (off := 2) (x := ((secsS q).getD i Sec.zero)) ((getD_at Sec.zero (k := i) (by first | omega | (simp; omega)))) rfl))∘Vl 57∘Vq [58] [(184, .bool (decide ((((secsS q).getD i Sec.zero).to : Int) > (((sealL (bodyS q)).length : Nat) : Int))))]∘Vo (.bool false) (by exact congrArg Value.bool (decide_eq_false om))∘Vp [59]∘Vd∘Jd6) fun a Z I => ?_)
  replace Z := Z.to [(185, .bool false), (29, vI i), (124, .bool true), (123, vI i), (122, vI ((secsS p).length : Nat)), (120, .bool false), (25, .string d), (23, vS gA63 ((secsS q).length) c63), (21, vS gA58 ((secsS p).length) c58), (19, .slice A53 ((sealL (bodyS q)).length) c53), (17, .slice A48 ((sealL (bodyS p)).length) c48), (15, vP g15 0), (13, vP g13 0), (31, .bool false), (12, .bool false)]
  refine Jb Z I ((JF∘JS') fun a Z I => ?_)
  refine wp_seq ?_
  refine Jb Z I ((Vs .n []) fun wd18 => (Vp [0, 1, 2, 6, 7, 13, 14, 15, 19, 20]∘Vy 3 (h:=by exact Yl.ix0 gA58 i 3 rfl rfl rfl)∘Vf 4 1∘Vy 5 (v := vI (((secsS p).getD i Sec.zero).fr)) (h:=by exact Yl.qp rfl rfl kr (fun _ h => h.qk ze (i := 1) rfl (k := i) (off := 1) (x := ((secsS p).getD i Sec.zero)) ((getD_at Sec.zero (k := i) (by first | omega | (simp; omega)))) rfl))∘Vy 8 (h:=by exact Yl.ix0 gA58 i 3 rfl rfl rfl)∘Vf 9 2∘Vy 10 (v := vI (((secsS p).getD i Sec.zero).to)) (h:=by exact Yl.qp rfl rfl kr (fun _ h => h.qk ze (i := 1) rfl (k := i) (off := 2) (x := ((secsS p).getD i Sec.zero)) ((getD_at Sec.zero (k := i) (by first | omega | (simp; omega)))) rfl))∘Vy 11 (v := .slice (if c48 = ((secsS p).getD i Sec.zero).fr then A48 else A48.map (·.add ((((secsS p).getD i Sec.zero).fr) * 1))) ((((secsS p).getD i Sec.zero).to) - (((secsS p).getD i Sec.zero).fr)) (c48 - (((secsS p).getD i Sec.zero).fr))) (h:=by exact Yl.qpd ei_u8 (i := ((secsS p).getD i Sec.zero).fr) (j := ((secsS p).getD i Sec.zero).to) rfl rfl rfl rfl om om)∘Vy 12 (h:=by exact Yl.str rfl rfl (fun _ h => qs5 (h.rd (i := 3) rfl) hpi hc48))∘Vy 16 (h:=by exact Yl.ix0 gA63 i 3 rfl rfl rfl)∘Vf 17 1∘Vy 18 (v := vI (((secsS q).getD i Sec.zero).fr)) (h:=by exact Yl.qp rfl rfl kr (fun _ h => h.qk ze (i := 0) rfl (k := i) (off := 1) (x := ((secsS q).getD i Sec.zero)) ((getD_at Sec.zero (k := i) (by first | omega | (simp; omega)))) rfl))∘Vy 21 (h:=by exact Yl.ix0 gA63 i 3 rfl rfl rfl)∘Vf 22 2∘Vy 23 (v := vI (((secsS q).getD i Sec.zero).to)) (h:=by exact Yl.qp rfl rfl kr (fun _ h => h.qk ze (i := 0) rfl (k := i) (off := 2) (x := ((secsS q).getD i Sec.zero)) ((getD_at Sec.zero (k := i) (by first | omega | (simp; omega)))) rfl))∘Vy 24 (v := .slice (if c53 = ((secsS q).getD i Sec.zero).fr then A53 else A53.map (·.add ((((secsS q).getD i Sec.zero).fr) * 1))) ((((secsS q).getD i Sec.zero).to) - (((secsS q).getD i Sec.zero).fr)) (c53 - (((secsS q).getD i Sec.zero).fr))) (h:=by exact Yl.qpd ei_u8 (i := ((secsS q).getD i Sec.zero).fr) (j := ((secsS q).getD i Sec.zero).to) rfl rfl rfl rfl om om)∘Vy 25 (h:=by exact Yl.str rfl rfl (fun _ h => qs5 (h.rd (i := 2) rfl) hqi hc53))∘Vq [26] [(212, .bool (!(((bstr (cutB (sealL (bodyS p)) ((secsS p).getD i Sec.zero)))).toList == ((bstr (cutB (sealL (bodyS q)) ((secsS q).getD i Sec.zero)))).toList)))]∘Vo (.bool (!(decide (cutB (sealL (bodyS p)) ((secsS p).getD i Sec.zero) = cutB (sealL (bodyS q)) ((secsS q).getD i Sec.zero))))) (by rw [qwx (qs4 (qdj (qew p)) _) (qs4 (qdj (qew q)) _)])∘Vd∘Jd6) (Ji' (fun hd212 => ?_) fun hd212 => ?_))
  ·
   exact (JT∘JP∘Jp 3∘Jy (h:=by exact Yl.ix0 gA58 i 3 rfl rfl rfl)∘Jf 0∘Jy (v := .string ((secsS p).getD i Sec.zero).nm) (h:=by exact Yl.qp rfl rfl kr (fun _ h => (by have := h.qk ze (i := 1) rfl (k := i) (off := 0) (x := ((secsS p).getD i Sec.zero)) ((getD_at Sec.zero (k := i) (by first | omega | (simp; omega)))) rfl; simpa using this)))∘Jp 1∘Jo (.bool true) (by rw [hdd, qs7 om hd212]; simp)∘Jp 1∘Jd6∘Jj∘JZ) JY1
  refine (JF∘JS'∘JR∘JaK 1∘Jp 1∘Jd1∘Jq) fun a Z I => ?_
  exact ⟨_, om, i + 1, by omega, hdd.trans (qs6 om hd212), rfl, Z.sub kr, I.pt 8 [0, 1, 2, 3, 4, 5, 6, 7]⟩
 intro a Z I
 have hd124 := of_decide_eq_false hb124
 exact Jb Z I ((JF∘JX∘JG∘JP∘Jp 2∘Jo (.bool true) (by rw [hdd, qz4 om, beq_self_eq_true])∘Jp 1∘Jd2∘Jj∘JZ) JY1)
end Go.Proofs.YtcajpeiobkcliaaGreatDoor
