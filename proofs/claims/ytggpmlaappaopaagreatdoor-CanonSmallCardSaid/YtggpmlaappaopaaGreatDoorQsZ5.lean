/- Parts. -/
import Derived.Test.YtggpmlaappaopaaGreatDoorQsZ4
set_option linter.all false
set_option maxRecDepth 100000
set_option maxHeartbeats 1000000
namespace Go.Proofs.YtggpmlaappaopaaGreatDoor
open Go.RowKit
theorem qce (w : World) :
    Calls Tryz.prog 10 #[] w (ExIs w) := by
 refine qg (vs := []) Tryz.func10 rfl rfl (by kernel_rfl) (σ0 := []) rfl ?_
 intro a HF
 have HM := Mem.start w
 refine wp_seq (qa ?_)
 refine fo HF 0 rfl rfl ?_
 refine qs HF HM (cs := #[vI 0, vI 0, vQ 0, .slice none 0 0, .slice none 0 0, .slice none 0 0, .slice none 0 0, .slice none 0 0]) rfl (by kernel_rfl) rfl (by decide) ?_
 clear HF HM; intro a w0 g0 HF HM
 refine fo HF 1 rfl rfl ?_
 refine qs HF HM (cs := #[vI 0, vI 0, vQ 0, .slice none 0 0, .slice none 0 0, .slice none 0 0, .slice none 0 0, .slice none 0 0]) rfl (by kernel_rfl) rfl (by decide) ?_
 clear HF HM; intro a w1 g1 HF HM
 refine qb rfl (wp_seq (qa ?_))
 refine fy HF HM 0 rfl rfl rfl (v := .agg #[vI 0, vI 1]) (Yl.build (vs := [(1, vI 1)]) rfl (by kernel_rfl) (by kernel_rfl)) fun a HF => ?_
 refine fo HF 1 rfl rfl ?_
 refine qt HF HM (vs := [(0, .agg #[vI 0, vI 1])]) (cs := #[vI 0, vI 1]) rfl ei_gr (by decide) rfl (by kernel_rfl) rfl (by decide) ?_
 clear HF HM; intro a w6 g6 HF HM
 refine fp HF 1 2 [(2, vS g6 1 1)] fun a HF => ?_
 refine qb rfl (wp_seq (qa ?_))
 refine fp HF 1 0 [(7, vS g6 1 1)] fun a HF => ?_
 refine fy HF HM 1 rfl rfl rfl (v := .agg #[vI 1, vQ 0, vS g6 1 1]) (Yl.build (vs := [(0, vI 1), (2, vS g6 1 1)]) rfl (by kernel_rfl) (by kernel_rfl)) fun a HF => ?_
 refine fo HF 2 rfl rfl ?_
 refine qt HF HM (vs := [(0, vI 0)]) (cs := #[vI 0]) rfl qa9 (by decide) rfl (by kernel_rfl) rfl (by decide) ?_
 clear HF HM; intro a w9 g9 HF HM
 refine fo HF 3 rfl rfl ?_
 refine qt HF HM (vs := [(0, vI 0)]) (cs := #[vI 0]) rfl qa9 (by decide) rfl (by kernel_rfl) rfl (by decide) ?_
 clear HF HM; intro a w10 g10 HF HM
 refine fy HF HM 4 rfl rfl rfl (v := .agg #[vQ 0, vW 0, vQ 0]) (Yl.build (vs := []) rfl (by kernel_rfl) (by kernel_rfl)) fun a HF => ?_
 refine fo HF 5 rfl rfl ?_
 refine qt HF HM (vs := [(0, .agg #[vQ 0, vW 0, vQ 0])]) (cs := #[vQ 0, vW 0, vQ 0]) rfl ei_sp (by decide) rfl (by kernel_rfl) rfl (by decide) ?_
 clear HF HM; intro a w12 g12 HF HM
 refine fo HF 6 rfl rfl ?_
 refine qt HF HM (vs := [(0, vS g12 1 1)]) (cs := #[vS g12 1 1]) rfl ei_rw (by decide) rfl (by kernel_rfl) rfl (by decide) ?_
 clear HF HM; intro a w13 g13 HF HM
 refine fy HF HM 7 rfl rfl rfl (v := .agg #[vI 1, vQ 0, vS g6 1 1, vS g9 1 1, vS g10 1 1, .slice none 0 0, vS g13 1 1]) (Yl.build (vs := [(0, .agg #[vI 1, vQ 0, vS g6 1 1]), (1, vS g9 1 1), (2, vS g10 1 1), (4, vS g13 1 1)]) rfl (by kernel_rfl) (by kernel_rfl)) fun a HF => ?_
 refine fo HF 8 rfl rfl ?_
 refine qs HF HM (cs := #[vI 0, vQ 0, .slice none 0 0, .slice none 0 0, .slice none 0 0, .slice none 0 0, .slice none 0 0]) rfl (by kernel_rfl) rfl (by decide) ?_
 clear HF HM; intro a w3 g3 HF HM
 refine fo HF 9 rfl rfl ?_
 refine e_sa HF HM 0 rfl rfl rfl rfl rfl si_st rfl rfl (by simp [Value.oneCell']) ?_
 clear HM; intro w2_9 HM
 refine qb rfl (wp_seq (qa ?_))
 refine fp HF 1 0 [(15, vS g6 1 1)] fun a HF => ?_
 refine fy HF HM 1 rfl rfl rfl (v := .agg #[vI 1, vQ 0, vS g6 1 1]) (Yl.build (vs := [(0, vI 1), (2, vS g6 1 1)]) rfl (by kernel_rfl) (by kernel_rfl)) fun a HF => ?_
 refine fo HF 2 rfl rfl ?_
 refine qt HF HM (vs := [(0, vI 3)]) (cs := #[vI 3]) rfl qa9 (by decide) rfl (by kernel_rfl) rfl (by decide) ?_
 clear HF HM; intro a w17 g17 HF HM
 refine fo HF 3 rfl rfl ?_
 refine qt HF HM (vs := [(0, vI 5)]) (cs := #[vI 5]) rfl qa9 (by decide) rfl (by kernel_rfl) rfl (by decide) ?_
 clear HF HM; intro a w18 g18 HF HM
 refine fy HF HM 4 rfl rfl rfl (v := .agg #[vI 5, vI 0, vI 1024, vI 0, vQ 1, .bool true, vQ 3072, vW 0]) (Yl.build (vs := [(0, vI 5), (2, vI 1024), (4, vQ 1), (5, .bool true), (6, vQ 3072)]) rfl (by kernel_rfl) (by kernel_rfl)) fun a HF => ?_
 refine fo HF 5 rfl rfl ?_
 refine qt HF HM (vs := [(0, .agg #[vI 5, vI 0, vI 1024, vI 0, vQ 1, .bool true, vQ 3072, vW 0])]) (cs := #[vI 5, vI 0, vI 1024, vI 0, vQ 1, .bool true, vQ 3072, vW 0]) rfl ei_tk (by decide) rfl (by kernel_rfl) rfl (by decide) ?_
 clear HF HM; intro a w20 g20 HF HM
 refine fy HF HM 6 rfl rfl rfl (v := .agg #[vQ 0, vW 0, vQ 3072]) (Yl.build (vs := [(2, vQ 3072)]) rfl (by kernel_rfl) (by kernel_rfl)) fun a HF => ?_
 refine fo HF 7 rfl rfl ?_
 refine qt HF HM (vs := [(0, .agg #[vQ 0, vW 0, vQ 3072])]) (cs := #[vQ 0, vW 0, vQ 3072]) rfl ei_sp (by decide) rfl (by kernel_rfl) rfl (by decide) ?_
 clear HF HM; intro a w22 g22 HF HM
 refine fo HF 8 rfl rfl ?_
 refine qt HF HM (vs := [(0, vS g22 1 1)]) (cs := #[vS g22 1 1]) rfl ei_rw (by decide) rfl (by kernel_rfl) rfl (by decide) ?_
 clear HF HM; intro a w23 g23 HF HM
 refine fy HF HM 9 rfl rfl rfl (v := .agg #[vI 1, vQ 0, vS g6 1 1, vS g17 1 1, vS g18 1 1, vS g20 1 1, vS g23 1 1]) (Yl.build (vs := [(0, .agg #[vI 1, vQ 0, vS g6 1 1]), (1, vS g17 1 1), (2, vS g18 1 1), (3, vS g20 1 1), (4, vS g23 1 1)]) rfl (by kernel_rfl) (by kernel_rfl)) fun a HF => ?_
 refine fo HF 10 rfl rfl ?_
 refine qs HF HM (cs := #[vI 0, vQ 0, .slice none 0 0, .slice none 0 0, .slice none 0 0, .slice none 0 0, .slice none 0 0]) rfl (by kernel_rfl) rfl (by decide) ?_
 clear HF HM; intro a w4 g4 HF HM
 refine fo HF 11 rfl rfl ?_
 refine e_sa HF HM 0 rfl rfl rfl rfl rfl si_st rfl rfl (by simp [Value.oneCell']) ?_
 clear HM; intro w3_11 HM
 refine qb rfl (wp_seq ?_)
 refine zc HM [.blk g4 #[vI 1, vQ 0, vS g6 1 1, vS g17 1 1, vS g18 1 1, vS g20 1 1, vS g23 1 1] 30, .blk g23 #[vS g22 1 1] 44, .blk g22 #[vQ 0, vW 0, vQ 3072] 43, .blk g20 #[vI 5, vI 0, vI 1024, vI 0, vQ 1, .bool true, vQ 3072, vW 0] 46, .blk g18 #[vI 5] 3, .blk g17 #[vI 3] 3, .blk g3 #[vI 1, vQ 0, vS g6 1 1, vS g9 1 1, vS g10 1 1, .slice none 0 0, vS g13 1 1] 30, .blk g13 #[vS g12 1 1] 44, .blk g12 #[vQ 0, vW 0, vQ 0] 43, .blk g10 #[vI 0] 3, .blk g9 #[vI 0] 3, .blk g6 #[vI 0, vI 1] 40, .blk g1 #[vI 0, vI 0, vQ 0, .slice none 0 0, .slice none 0 0, .slice none 0 0, .slice none 0 0, .slice none 0 0] 32] [0, 1, 2, 3, 4, 5, 6, 7, 8, 9, 10, 11, 12] [5] fun HM HS => ?_
 refine ay HF HS 0 rfl rfl rfl (v := .agg #[vI 1, vQ 0, vS g6 1 1, vS g9 1 1, vS g10 1 1, .slice none 0 0, vS g13 1 1]) (Yl.qr rfl rfl si_st rfl (fun _ h => qe (h.blk (i := 6) rfl))) fun a HF => ?_
 refine ay HF HS 1 rfl rfl rfl (v := .agg #[vI 1, vI 1, vQ 0, vS g6 1 1, vS g9 1 1, vS g10 1 1, .slice none 0 0, vS g13 1 1]) (Yl.build (vs := [(0, vI 1), (1, .agg #[vI 1, vQ 0, vS g6 1 1, vS g9 1 1, vS g10 1 1, .slice none 0 0, vS g13 1 1])]) rfl (by kernel_rfl) (by kernel_rfl)) fun a HF => ?_
 refine ay HF HS 2 rfl rfl rfl (v := .agg #[vI 1, vQ 0, vS g6 1 1, vS g17 1 1, vS g18 1 1, vS g20 1 1, vS g23 1 1]) (Yl.qr rfl rfl si_st rfl (fun _ h => qe (h.blk (i := 0) rfl))) fun a HF => ?_
 refine ay HF HS 3 rfl rfl rfl (v := .agg #[vI 4, vI 1, vQ 0, vS g6 1 1, vS g17 1 1, vS g18 1 1, vS g20 1 1, vS g23 1 1]) (Yl.build (vs := [(0, vI 4), (1, .agg #[vI 1, vQ 0, vS g6 1 1, vS g17 1 1, vS g18 1 1, vS g20 1 1, vS g23 1 1])]) rfl (by kernel_rfl) (by kernel_rfl)) fun a HF => ?_
 refine qm [4] (by kernel_rfl) rfl ?_
 refine all_cons ?_ all_nil
 refine qk HF (i := 4) rfl rfl ?_
 refine e_sa HF HM 13 rfl rfl rfl rfl rfl qx rfl rfl (by simp [Value.oneCell']) ?_
 clear HM; intro w4_4 HM
 refine keepS (HM.picks [0, 1, 2, 3, 4, 5, 6, 7, 8, 9, 10, 11, 12] (by decide) rfl) (fun HS => ?_)
 refine qm [5] (by kernel_rfl) rfl ?_
 refine all_cons ?_ all_nil
 refine qk HF (i := 5) rfl rfl ?_
 refine e_sa HF HM 12 rfl rfl rfl rfl rfl qx rfl rfl (by simp [Value.oneCell']) ?_
 clear HM; intro w4_5 HM
 refine noS (by kernel_rfl) ?_
 refine qq (by kernel_rfl) ?_
 refine wp_ret ?_
 exact ret2 rfl HF (.cellS (i := 13) HF HM rfl rfl qx rfl) (.cellS (i := 12) HF HM rfl rfl qx rfl) (⟨g6, g9, g10, g12, g13, g17, g18, g20, g22, g23, rfl, HM.picks [11, 10, 9, 8, 7, 5, 4, 3, 2, 1] (by decide) rfl⟩)
theorem qnq {a b c d e : Nat} (B : Nat) (w : World) (hL : LaidX B w) (hB : B ≤ w.heap.size) (hx : StRd w (exA a b c d e).st) : Calls Tryz.prog 22 #[.agg (exA a b c d e).cells] w (qcn w 0 (sealL byA)) := by
 have h := qcz (exA a b c d e) qml qef qh6 B w hL hB hx
 rwa [qfx, qq3] at h
theorem qq5 {a b c d e : Nat} (B : Nat) (w : World) (hL : LaidX B w) (hB : B ≤ w.heap.size) (hx : StRd w (exA a b c d e).st) : Calls Tryz.prog 24 #[.agg (exA a b c d e).cells] w (Is w (.tuple #[.int .i64 15, .int .i64 0])) := by
 have h := qjj (exA a b c d e) qml qef qh6 B w hL hB hx
 rwa [qfx, qq3] at h
theorem qsy {a b c d e : Nat} (B : Nat) (w : World) (hL : LaidX B w) (hB : B ≤ w.heap.size) (hx : StRd w (exA a b c d e).st) : Calls Tryz.prog 25 #[.agg (exA a b c d e).cells] w (Is w (.tuple #[.int .u32 (qu byA : Int), .int .i64 0])) := by
 have h := ql4 (exA a b c d e) qml qef qh6 B w hL hB hx
 rwa [qfx, qu4] at h
theorem qq6 {a b c d e f : Nat} (w : World) (hx : StRd w (exB a b c d e f).st) : Calls Tryz.prog 20 #[.agg (exB a b c d e f).cells] w (qeb w 0 nuB) := by
 have h := qcs (exB a b c d e f) qq4 qct qk3 w hx
 rwa [qh5, qsw] at h
theorem qq7 {a b c d e f : Nat} (w : World) (hx : StRd w (exB a b c d e f).st) : Calls Tryz.prog 27 #[.agg (exB a b c d e f).cells] w (qec 82 w 0 (secsS (exB 0 0 0 0 0 0))) := by
 have h := qdt (exB a b c d e f) qq4 qct qk3 w hx
 rwa [qh5, qsx] at h
theorem qnr {a b c d e : Nat} (w : World) (hx : StRd w (exA a b c d e).st) : Calls Tryz.prog 29 #[.agg (exZ a b c d e).cells] w (Is w (.int .i64 330)) := by
 have h := qbu (exZ a b c d e) qml qef qh6 w hx
 rwa [qu2] at h
theorem qns {a b c d e : Nat} (w : World) (hx : StRd w (exT a b c d e).st) : Calls Tryz.prog 29 #[.agg (exT a b c d e).cells] w (Is w (.int .i64 331)) := by
 have h := qbu (exT a b c d e) qwb qu5 qu6 w hx
 rwa [qu3] at h
theorem qnt {a b c d e p q r s t v : Nat} (w : World) (hx : StRd w (exA a b c d e).st) (hz : StRd w (exB p q r s t v).st) : Calls Tryz.prog 31 #[.agg (exA a b c d e).cells, .agg (exB p q r s t v).cells] w (Is w (.bool false)) := by
 have h := qfw (exA a b c d e) (exB p q r s t v) w hx hz qef qct
 rwa [decide_eq_false (fun e => absurd (show (1 : Int) = 4 from e.1) (by decide))] at h
theorem qnu {p q r s t v : Nat} (w : World) (hz : StRd w (exB p q r s t v).st) : Calls Tryz.prog 31 #[.agg (exB p q r s t v).cells, .agg (exB p q r s t v).cells] w (Is w (.bool true)) := by
 have h := qfw (exB p q r s t v) (exB p q r s t v) w hz hz qct qct
 rwa [decide_eq_true (sn_of rfl (qm3 _))] at h
theorem qk4 (A : Option Addr) (c : Nat) (B : Nat) (w : World) (hL : LaidX B w) (hB : B ≤ w.heap.size) (hr : Rd w w.heap.size 1 A 15 ((sealL byA).map B8)) (hc : 15 ≤ c) : Calls Tryz.prog 34 #[.slice A 15 c] w (Is w (.bool true)) := by
 have h := qnp A 15 c (sealL byA) B w hL hB hr hc rfl (by decide) (qos (by decide))
 rwa [qj0] at h
theorem qk5 (B : Nat) (w : World) (hL : LaidX B w) (hB : B ≤ w.heap.size) :
    Calls Tryz.prog 9 #[] w (Is w (.bool true)) := by
 refine qg (vs := []) Tryz.func9 rfl rfl (by kernel_rfl) (σ0 := []) rfl ?_
 intro a HF
 have HM := Mem.start w
 refine wp_seq (qa ?_)
 refine fp HF 1 0 [(0, .bool false)] fun a HF => ?_
 refine qb rfl (wp_seq (qa ?_))
 refine fo HF 0 rfl rfl ?_
 refine e_cl HF [] rfl rfl (qce _) ?_
 rintro _ w16 ⟨e6, e9, e10, e12, e13, e17, e18, e20, e22, e23, rfl, hm⟩
 refine ⟨_, rfl, ?_⟩
 replace HM := HM.join hm
 clear HF; intro a HF
 refine fp HF 3 1 [(18, .agg ((exB e6 e17 e18 e20 e22 e23).cells)), (17, .agg ((exA e6 e9 e10 e12 e13).cells))] fun a HF => ?_
 refine fo HF 4 rfl rfl ?_
 refine qs HF HM (cs := #[vI 0, vI 0, vQ 0, .slice none 0 0, .slice none 0 0, .slice none 0 0, .slice none 0 0, .slice none 0 0]) rfl (by kernel_rfl) rfl (by decide) ?_
 clear HF HM; intro a w1 g1 HF HM
 refine fo HF 5 rfl rfl ?_
 refine qs HF HM (cs := #[vI 0, vI 0, vQ 0, .slice none 0 0, .slice none 0 0, .slice none 0 0, .slice none 0 0, .slice none 0 0]) rfl (by kernel_rfl) rfl (by decide) ?_
 clear HF HM; intro a w2 g2 HF HM
 refine fo HF 6 rfl rfl ?_
 refine e_sa HF HM 1 rfl rfl rfl rfl rfl qx rfl rfl (qa6 (exA e6 e9 e10 e12 e13)) ?_
 clear HM; intro w1_6 HM
 refine fo HF 7 rfl rfl ?_
 refine e_sa HF HM 0 rfl rfl rfl rfl rfl qx rfl rfl (qa6 (exB e6 e17 e18 e20 e22 e23)) ?_
 clear HM; intro w1_7 HM
 refine qb rfl (wp_seq (qa ?_))
 refine fy HF HM 0 rfl rfl rfl (v := .agg ((exA e6 e9 e10 e12 e13).cells)) (Yl.qr rfl rfl qx rfl (fun _ h => qe (h.blk (i := 1) rfl))) fun a HF => ?_
 refine fo HF 1 rfl rfl ?_
 refine e_cl HF [.agg ((exA e6 e9 e10 e12 e13).cells)] rfl rfl (qnq B _ (hL.mem HM hB) (HM.le hB) (qhb (HM.blk (i := 2) rfl) (HM.blk (i := 3) rfl) (HM.blk (i := 4) rfl) (HM.blk (i := 5) rfl) (HM.blk (i := 6) rfl))) ?_
 rintro _ w21 ⟨⟨A21, c21, rfl, ho, hc21⟩, hbw⟩
 refine ⟨_, rfl, ?_⟩
 replace HM := HM.callRow hbw ho
 clear HF; intro a HF
 replace hc21 : 15 ≤ c21 := hc21
 refine fp HF 5 2 [(4, vI 0), (3, .slice A21 15 c21)] fun a HF => ?_
 refine qb rfl (wp_seq (qa ?_))
 refine fy HF HM 0 rfl rfl rfl (v := .agg ((exA e6 e9 e10 e12 e13).cells)) (Yl.qr rfl rfl qx rfl (fun _ h => qe (h.blk (i := 2) rfl))) fun a HF => ?_
 refine fo HF 1 rfl rfl ?_
 refine e_is HF HM [.agg ((exA e6 e9 e10 e12 e13).cells)] (.tuple #[vI 15, vI 0]) rfl rfl (qq5 B _ (hL.mem HM hB) (HM.le hB) (qhb (HM.blk (i := 3) rfl) (HM.blk (i := 4) rfl) (HM.blk (i := 5) rfl) (HM.blk (i := 6) rfl) (HM.blk (i := 7) rfl))) fun w26 hbw HM a HF => ?_
 refine fp HF 5 2 [(6, vI 0), (5, vI 15)] fun a HF => ?_
 refine qb rfl (wp_seq (qa ?_))
 refine fy HF HM 0 rfl rfl rfl (v := .agg ((exB e6 e17 e18 e20 e22 e23).cells)) (Yl.qr rfl rfl qx rfl (fun _ h => qe (h.blk (i := 1) rfl))) fun a HF => ?_
 refine fo HF 1 rfl rfl ?_
 refine e_cl HF [.agg ((exB e6 e17 e18 e20 e22 e23).cells)] rfl rfl (qq6 _ (qfy (HM.blk (i := 3) rfl) (HM.blk (i := 8) rfl) (HM.blk (i := 9) rfl) (HM.blk (i := 10) rfl) (HM.blk (i := 11) rfl) (HM.blk (i := 12) rfl))) ?_
 rintro _ w31 ⟨⟨A31, c31, rfl, ho, hc31⟩, hbw⟩
 refine ⟨_, rfl, ?_⟩
 replace HM := HM.callRow hbw ho
 clear HF; intro a HF
 replace hc31 : 16 ≤ c31 := hc31
 refine fp HF 5 2 [(8, vI 0), (7, .slice A31 16 c31)] fun a HF => ?_
 refine qb rfl (wp_seq (qa ?_))
 refine fy HF HM 0 rfl rfl rfl (v := .agg ((exA e6 e9 e10 e12 e13).cells)) (Yl.qr rfl rfl qx rfl (fun _ h => qe (h.blk (i := 3) rfl))) fun a HF => ?_
 refine fo HF 1 rfl rfl ?_
 refine e_is HF HM [.agg ((exA e6 e9 e10 e12 e13).cells)] (.tuple #[vW (qu byA), vI 0]) rfl rfl (qsy B _ (hL.mem HM hB) (HM.le hB) (qhb (HM.blk (i := 4) rfl) (HM.blk (i := 5) rfl) (HM.blk (i := 6) rfl) (HM.blk (i := 7) rfl) (HM.blk (i := 8) rfl))) fun w36 hbw HM a HF => ?_
 refine fp HF 5 2 [(10, vI 0), (9, vW (qu byA))] fun a HF => ?_
 refine qb rfl (wp_seq (qa ?_))
 refine fy HF HM 0 rfl rfl rfl (v := .agg ((exB e6 e17 e18 e20 e22 e23).cells)) (Yl.qr rfl rfl qx rfl (fun _ h => qe (h.blk (i := 2) rfl))) fun a HF => ?_
 refine fo HF 1 rfl rfl ?_
 refine e_cl HF [.agg ((exB e6 e17 e18 e20 e22 e23).cells)] rfl rfl (qq7 _ (qfy (HM.blk (i := 4) rfl) (HM.blk (i := 9) rfl) (HM.blk (i := 10) rfl) (HM.blk (i := 11) rfl) (HM.blk (i := 12) rfl) (HM.blk (i := 13) rfl))) ?_
 rintro _ w41 ⟨⟨A41, c41, rfl, ho, hc41⟩, hbw⟩
 refine ⟨_, rfl, ?_⟩
 replace HM := HM.callRow hbw ho
 clear HF; intro a HF
 replace hc41 : 9 ≤ c41 := hc41
 refine fp HF 5 2 [(12, vI 0), (11, .slice A41 9 c41)] fun a HF => ?_
 refine qb rfl (wp_seq (wp_seq (qa ?_)))
 refine fp HF 16 0 [(59, .slice A21 15 c21), (58, .bool false)] fun a HF => ?_
 refine fy HF HM 16 rfl rfl rfl (Yl.len rfl rfl (by kernel_rfl)) fun a HF => ?_
 refine fp HF 4 17 [(64, .slice A21 15 c21), (63, .bool false)] fun a HF => ?_
 refine fy HF HM 21 rfl rfl rfl (v := .slice A21 11 c21) (Yl.qbx ei_u8 (j := 11) rfl rfl rfl (by omega)) fun a HF => ?_
 refine fy HF HM 22 rfl rfl rfl (v := .string (bstr byA)) (Yl.str rfl rfl (fun _ h => qmm (h.rd (i := 2) rfl))) fun a HF => ?_
 refine fp HF 3 23 [(69, .bool (!(((bstr byA)).toList == ((ByteArray.mk #[113, 115, 1, 1, 1, 0, 1, 0, 0, 0, 0])).toList)))] fun a HF => ?_
 rcases HF.tf 69 rfl with ⟨hb69, HF⟩ | ⟨hb69, HF⟩
 ·
  rw [show ((bstr byA).toList == (ByteArray.mk #[113, 115, 1, 1, 1, 0, 1, 0, 0, 0, 0]).toList) = true from qof byA] at hb69; cases hb69
 refine fp HF 1 26 [(70, .slice A21 15 c21)] fun a HF => ?_
 refine fo HF 27 rfl rfl ?_
 refine e_is HF HM [.slice A21 15 c21] (.bool true) rfl rfl (qk4 A21 c21 B _ (hL.mem HM hB) (HM.le hB) (HM.rd (i := 2) rfl) hc21) fun w71 hbw HM a HF => ?_
 refine fp HF 5 28 [(76, .slice A21 15 c21), (75, vW (qu byA)), (74, .bool false)] fun a HF => ?_
 refine fy HF HM 33 rfl rfl rfl (v := .slice A21 11 c21) (Yl.qbx ei_u8 (j := 11) rfl rfl rfl (by omega)) fun a HF => ?_
 refine fo HF 34 rfl rfl ?_
 refine e_is HF HM [.slice A21 11 c21] (vW (qu byA)) rfl rfl (qcy A21 11 c21 byA B _ (hL.mem HM hB) (HM.le hB) (qmm (HM.rd (i := 2) rfl)) rfl (by decide) (by decide)) fun w78 hbw HM a HF => ?_
 refine fp HF 3 35 [(81, .bool ((qu byA : Int) != (qu byA : Int)))] fun a HF => ?_
 rcases HF.tf 81 rfl with ⟨hb81, HF⟩ | ⟨hb81, HF⟩
 ·
  have hd81 := bne_iff_ne.1 hb81
  exact absurd rfl hd81
 have hd81 := bne_eq_false_iff_eq.1 hb81
 refine fp HF 1 38 [(82, .slice A31 16 c31)] fun a HF => ?_
 refine fo HF 39 rfl rfl ?_
 refine qt HF HM (vs := [(0, vQ 4), (1, vQ 1), (2, vQ 0), (3, vQ 1), (4, vQ 3), (5, vQ 5), (6, vQ 1), (7, vQ 5), (8, vQ 0), (9, vQ 1024), (10, vQ 0), (11, vQ 1), (12, vQ 1), (13, vQ 3072), (14, vQ 0), (15, vQ 3072)]) (cs := #[vQ 4, vQ 1, vQ 0, vQ 1, vQ 3, vQ 5, vQ 1, vQ 5, vQ 0, vQ 1024, vQ 0, vQ 1, vQ 1, vQ 3072, vQ 0, vQ 3072]) rfl za (by decide) rfl (by kernel_rfl) rfl (by decide) ?_
 clear HF HM; intro a w83 g83 HF HM
 refine fo HF 40 rfl rfl ?_
 refine e_is HF HM [.slice A31 16 c31, vS g83 16 16] (.bool true) rfl rfl (qha A31 c31 nuB (some ⟨g83, 0, none⟩) 16 _ (HM.rd (i := 2) rfl) (HM.rdBlk (i := 0) (n := 16) (size := 1) rfl rfl) (by decide)) fun w84 hbw HM a HF => ?_
 refine fp HF 4 41 [(88, .slice A41 9 c41), (87, .bool false)] fun a HF => ?_
 refine fy HF HM 45 rfl rfl rfl (Yl.len rfl rfl (by kernel_rfl)) fun a HF => ?_
 refine fp HF 4 46 [(93, .slice A41 9 c41), (92, .bool false)] fun a HF => ?_
 obtain ⟨gA41, rfl⟩ := zh (HM.own (i := 1) rfl) (Nat.lt_of_le_of_lt (Nat.zero_le _) (show 6 < 9 from by omega))
 refine fy HF HM 50 rfl rfl rfl (v := vP gA41 18) (Yl.indexAddr (ad := ⟨gA41, 0, none⟩) (y := 6) (sz := 3) rfl rfl rfl (by omega) (by kernel_rfl)) fun a HF => ?_
 refine fy HF HM 51 rfl rfl rfl (v := .agg sec6.cells) (Yl.qr rfl rfl ql3 rfl (fun _ h => h.qdx qhm (i := 1) rfl (exS_6))) fun a HF => ?_
 replace HF := HF.sp 95 (.agg sec6.cells) rfl (rfl)
 refine fy HF HM 52 rfl rfl rfl (v := .agg #[.string (ByteArray.mk #[116, 97, 115, 107, 115]), vI 9, vI 20]) (Yl.build (vs := [(0, .string (ByteArray.mk #[116, 97, 115, 107, 115])), (1, vI 9), (2, vI 20)]) rfl (by kernel_rfl) (by kernel_rfl)) fun a HF => ?_
 replace HF := HF.sp 96 (.agg sec6.cells) rfl (rfl)
 refine fy HF HM 53 rfl rfl rfl (v := .bool (!(secEq sec6 sec6))) (Yl.qch rfl rfl rfl (qpy sec6 sec6)) fun a HF => ?_
 refine fp HF 1 54 [(98, .bool (!(secEq sec6 sec6)))] fun a HF => ?_
 refine qb rfl ?_
 replace HF := HF.to [(98, .bool (!(secEq sec6 sec6))), (2, vP g2 0), (1, vP g1 0), (0, .bool false)]
 rcases HF.tf 98 rfl with ⟨hb98, HF⟩ | ⟨hb98, HF⟩
 ·
  rw [qgy] at hb98; cases hb98
 refine qc HF rfl (wp_skip (wp_seq (qa ?_)))
 refine fy HF HM 0 rfl rfl rfl (v := .agg ((exA e6 e9 e10 e12 e13).cells)) (Yl.qr rfl rfl qx rfl (fun _ h => qe (h.blk (i := 5) rfl))) fun a HF => ?_
 refine fo HF 1 rfl rfl ?_
 refine qs HF HM (cs := #[vI 0, vI 0, vQ 0, .slice none 0 0, .slice none 0 0, .slice none 0 0, .slice none 0 0, .slice none 0 0]) rfl (by kernel_rfl) rfl (by decide) ?_
 clear HF HM; intro a w13 g13 HF HM
 refine fo HF 2 rfl rfl ?_
 refine e_sa HF HM 0 rfl rfl rfl rfl rfl qx rfl rfl (qa6 (exA e6 e9 e10 e12 e13)) ?_
 clear HM; intro w9_2 HM
 refine qb rfl (wp_seq (qa ?_))
 refine fp HF 1 0 [(100, vP g13 0)] fun a HF => ?_
 refine fo HF 1 rfl rfl ?_
 refine q4 HF HM (i := 0) rfl rfl rfl rfl (by kernel_rfl) rfl rfl (by simp [Snm.cells]) ?_
 clear HM; intro w10_1 HM
 refine qb rfl (wp_seq (qa ?_))
 refine fy HF HM 0 rfl rfl rfl (v := .agg ((exA e6 e9 e10 e12 e13).cells)) (Yl.qr rfl rfl qx rfl (fun _ h => qe (h.blk (i := 6) rfl))) fun a HF => ?_
 refine fo HF 1 rfl rfl ?_
 refine qs HF HM (cs := #[vI 0, vI 0, vQ 0, .slice none 0 0, .slice none 0 0, .slice none 0 0, .slice none 0 0, .slice none 0 0]) rfl (by kernel_rfl) rfl (by decide) ?_
 clear HF HM; intro a w14 g14 HF HM
 refine fo HF 2 rfl rfl ?_
 refine e_sa HF HM 0 rfl rfl rfl rfl rfl qx rfl rfl (qa6 (exA e6 e9 e10 e12 e13)) ?_
 clear HM; intro w11_2 HM
 refine qb rfl (wp_seq (qa ?_))
 refine fo HF 0 rfl rfl ?_
 refine qt HF HM (vs := [(0, vI 0), (1, vI 0)]) (cs := #[vI 0, vI 0]) rfl qa9 (by decide) rfl (by kernel_rfl) rfl (by decide) ?_
 clear HF HM; intro a w102 g102 HF HM
 refine fp HF 2 1 [(104, vP g14 4)] fun a HF => ?_
 refine fo HF 3 rfl rfl ?_
 refine q4 HF HM (i := 1) rfl rfl rfl rfl (by kernel_rfl) rfl rfl (by simp [Snm.cells]) ?_
 clear HM; intro w12_3 HM
 refine qb rfl (wp_seq (qa ?_))
 refine fy HF HM 0 rfl rfl rfl (v := .agg #[vI 0, vI 1, vQ 0, vS e6 1 1, vS e9 1 1, vS e10 1 1, .slice none 0 0, vS e13 1 1]) (Yl.qr rfl rfl qx rfl (fun _ h => qe (h.blk (i := 2) rfl))) fun a HF => ?_
 refine fo HF 1 rfl rfl ?_
 refine e_is HF HM [.agg #[vI 0, vI 1, vQ 0, vS e6 1 1, vS e9 1 1, vS e10 1 1, .slice none 0 0, vS e13 1 1]] (vI 330) rfl rfl (qnr (a := e6) (b := e9) (c := e10) (d := e12) (e := e13) _ (qhb (HM.blk (i := 9) rfl) (HM.blk (i := 10) rfl) (HM.blk (i := 11) rfl) (HM.blk (i := 12) rfl) (HM.blk (i := 13) rfl))) fun w106 hbw HM a HF => ?_
 refine fp HF 2 2 [(108, .bool true)] fun a HF => ?_
 refine fy HF HM 4 rfl rfl rfl (v := .agg #[vI 1, vI 1, vQ 0, vS e6 1 1, vS g102 2 2, vS e10 1 1, .slice none 0 0, vS e13 1 1]) (Yl.qr rfl rfl qx rfl (fun _ h => qe (h.blk (i := 1) rfl))) fun a HF => ?_
 refine fo HF 5 rfl rfl ?_
 refine e_is HF HM [.agg #[vI 1, vI 1, vQ 0, vS e6 1 1, vS g102 2 2, vS e10 1 1, .slice none 0 0, vS e13 1 1]] (vI 331) rfl rfl (qns (a := e6) (b := g102) (c := e10) (d := e12) (e := e13) _ (qwc (HM.blk (i := 9) rfl) (HM.blk (i := 0) rfl) (HM.blk (i := 11) rfl) (HM.blk (i := 12) rfl) (HM.blk (i := 13) rfl))) fun w110 hbw HM a HF => ?_
 refine fp HF 3 6 [(113, .bool true)] fun a HF => ?_
 refine fy HF HM 9 rfl rfl rfl (v := .agg ((exA e6 e9 e10 e12 e13).cells)) (Yl.qr rfl rfl qx rfl (fun _ h => qe (h.blk (i := 8) rfl))) fun a HF => ?_
 refine fy HF HM 10 rfl rfl rfl (v := .agg ((exB e6 e17 e18 e20 e22 e23).cells)) (Yl.qr rfl rfl qx rfl (fun _ h => qe (h.blk (i := 7) rfl))) fun a HF => ?_
 refine fo HF 11 rfl rfl ?_
 refine e_is HF HM [.agg ((exA e6 e9 e10 e12 e13).cells), .agg ((exB e6 e17 e18 e20 e22 e23).cells)] (.bool false) rfl rfl (qnt _ (qhb (HM.blk (i := 9) rfl) (HM.blk (i := 10) rfl) (HM.blk (i := 11) rfl) (HM.blk (i := 12) rfl) (HM.blk (i := 13) rfl)) (qfy (HM.blk (i := 9) rfl) (HM.blk (i := 14) rfl) (HM.blk (i := 15) rfl) (HM.blk (i := 16) rfl) (HM.blk (i := 17) rfl) (HM.blk (i := 18) rfl))) fun w116 hbw HM a HF => ?_
 refine fp HF 3 12 [(119, .bool true)] fun a HF => ?_
 refine fy HF HM 15 rfl rfl rfl (v := .agg ((exB e6 e17 e18 e20 e22 e23).cells)) (Yl.qr rfl rfl qx rfl (fun _ h => qe (h.blk (i := 7) rfl))) fun a HF => ?_
 refine fy HF HM 16 rfl rfl rfl (v := .agg ((exB e6 e17 e18 e20 e22 e23).cells)) (Yl.qr rfl rfl qx rfl (fun _ h => qe (h.blk (i := 7) rfl))) fun a HF => ?_
 refine fo HF 17 rfl rfl ?_
 refine e_is HF HM [.agg ((exB e6 e17 e18 e20 e22 e23).cells), .agg ((exB e6 e17 e18 e20 e22 e23).cells)] (.bool true) rfl rfl (qnu _ (qfy (HM.blk (i := 9) rfl) (HM.blk (i := 14) rfl) (HM.blk (i := 15) rfl) (HM.blk (i := 16) rfl) (HM.blk (i := 17) rfl) (HM.blk (i := 18) rfl))) fun w122 hbw HM a HF => ?_
 refine fp HF 2 18 [(0, .bool true)] fun a HF => ?_
 refine qb rfl (wp_ret ?_)
 exact ret1 rfl HF (.tmp HF rfl) (⟨rfl, HM.below⟩)
theorem qbw {x : Stm} {l0 l1 l2 : List Sp} (hr : rowsL x = [l0, l1, l2]) (w : World) (hx : StRd w x) (hf : StFew x) : Calls Tryz.prog 11 #[.agg x.cells] w fun r w' => ∃ (gA lA uA tA sA A0 A1 A2 : Option Addr) (gc lc uc tc sc c0 c1 c2 : Nat),
  r = .returned (.agg #[.int .i64 x.cpus, .int .u64 (x.credit : Int), .slice gA x.gs.length gc, .slice lA x.cl.length lc, .slice uA x.cu.length uc, .slice tA x.ts.length tc, .slice sA 3 sc]) ∧ x.gs.length ≤ gc ∧ x.cl.length ≤ lc ∧ x.cu.length ≤ uc ∧ x.ts.length ≤ tc ∧ 3 ≤ sc ∧ l0.length ≤ c0 ∧ l1.length ≤ c1 ∧ l2.length ≤ c2 ∧
  Mem w w' [.row (.slice gA x.gs.length gc) x.gs.length (x.gs.flatMap grL) 40 2, .row (.slice lA x.cl.length lc) x.cl.length (x.cl.map I64i) 3 1, .row (.slice uA x.cu.length uc) x.cu.length (x.cu.map I64i) 3 1, .row (.slice tA x.ts.length tc) x.ts.length (x.ts.flatMap tkL) 46 8, .row (.slice sA 3 sc) 3 ([(⟨A0, c0, l0⟩ : Rw), ⟨A1, c1, l1⟩, ⟨A2, c2, l2⟩].map Rw.val) 44 1, .row (.slice A0 l0.length c0) l0.length (l0.flatMap spL) 43 3, .row (.slice A1 l1.length c1) l1.length (l1.flatMap spL) 43 3, .row (.slice A2 l2.length c2) l2.length (l2.flatMap spL) 43 3] := by
 refine (qcd x w hx hf).mono fun r w' h => ?_
 obtain ⟨gA, lA, uA, tA, sA, gc, lc, uc, tc, sc, q, hr2, hq, h1, h2, h3, h4, h5, h6, hm⟩ := qjt h
 rw [hr] at hq
 obtain ⟨A0, A1, A2, c0, c1, c2, rfl⟩ := qnv hq
 exact ⟨gA, lA, uA, tA, sA, A0, A1, A2, gc, lc, uc, tc, sc, c0, c1, c2, hr2, h1, h2, h3, h4, h5, h6 ⟨A0, c0, l0⟩ (by simp), h6 ⟨A1, c1, l1⟩ (by simp), h6 ⟨A2, c2, l2⟩ (by simp), hm⟩
theorem qnw (B : Nat) (w : World) (hL : LaidX B w) (hB : B ≤ w.heap.size) :
    Calls Tryz.prog 12 #[] w (Is w (.bool true)) := by
 refine qg (vs := []) Tryz.func12 rfl rfl (by kernel_rfl) (σ0 := []) rfl ?_
 intro a HF
 have HM := Mem.start w
 refine wp_seq (qa ?_)
 refine fp HF 1 0 [(0, .bool false)] fun a HF => ?_
 refine qb rfl (wp_seq (qa ?_))
 refine fy HF HM 0 rfl rfl rfl (v := .agg #[vI 0, vI 1]) (Yl.build (vs := [(1, vI 1)]) rfl (by kernel_rfl) (by kernel_rfl)) fun a HF => ?_
 refine fy HF HM 1 rfl rfl rfl (v := .agg #[vI 0, vI 300]) (Yl.build (vs := [(0, vI 0), (1, vI 300)]) rfl (by kernel_rfl) (by kernel_rfl)) fun a HF => ?_
 refine fy HF HM 2 rfl rfl rfl (v := .agg #[vI 1, vI 65536]) (Yl.build (vs := [(0, vI 1), (1, vI 65536)]) rfl (by kernel_rfl) (by kernel_rfl)) fun a HF => ?_
 refine fo HF 3 rfl rfl ?_
 refine qt HF HM (vs := [(0, .agg #[vI 0, vI 1]), (1, .agg #[vI 0, vI 300]), (2, .agg #[vI 1, vI 65536])]) (cs := #[vI 0, vI 1, vI 0, vI 300, vI 1, vI 65536]) rfl ei_gr (by decide) rfl (by kernel_rfl) rfl (by decide) ?_
 clear HF HM; intro a w11 g11 HF HM
 refine fy HF HM 4 rfl rfl rfl (v := .agg #[vI 3, vQ 99, vS g11 3 3]) (Yl.build (vs := [(0, vI 3), (1, vQ 99), (2, vS g11 3 3)]) rfl (by kernel_rfl) (by kernel_rfl)) fun a HF => ?_
 refine fo HF 5 rfl rfl ?_
 refine qt HF HM (vs := [(0, vI 1), (1, vI 281474976710656), (2, vI 0)]) (cs := #[vI 1, vI 281474976710656, vI 0]) rfl qa9 (by decide) rfl (by kernel_rfl) rfl (by decide) ?_
 clear HF HM; intro a w13 g13 HF HM
 refine fo HF 6 rfl rfl ?_
 refine qt HF HM (vs := [(0, vI 0), (1, vI 300), (2, vI 0)]) (cs := #[vI 0, vI 300, vI 0]) rfl qa9 (by decide) rfl (by kernel_rfl) rfl (by decide) ?_
 clear HF HM; intro a w14 g14 HF HM
 refine fy HF HM 7 rfl rfl rfl (v := .agg #[vI 3, vQ 99, vS g11 3 3, vS g13 3 3, vS g14 3 3, .slice none 0 0, .slice none 0 0]) (Yl.build (vs := [(0, .agg #[vI 3, vQ 99, vS g11 3 3]), (1, vS g13 3 3), (2, vS g14 3 3)]) rfl (by kernel_rfl) (by kernel_rfl)) fun a HF => ?_
 refine fo HF 8 rfl rfl ?_
 refine qs HF HM (cs := #[vI 0, vQ 0, .slice none 0 0, .slice none 0 0, .slice none 0 0, .slice none 0 0, .slice none 0 0]) rfl (by kernel_rfl) rfl (by decide) ?_
 clear HF HM; intro a w1 g1 HF HM
 refine fo HF 9 rfl rfl ?_
 refine e_sa HF HM 0 rfl rfl rfl rfl rfl si_st rfl rfl (by simp [Value.oneCell']) ?_
 clear HM; intro w1_9 HM
 refine qb rfl (wp_seq (qa ?_))
 refine fy HF HM 0 rfl rfl rfl (v := .agg #[vI 7, vI 2, vI 5, vI 0, vQ 7, .bool false, vQ 18446744073709551615, vW 0]) (Yl.build (vs := [(0, vI 7), (1, vI 2), (2, vI 5), (3, vI 0), (4, vQ 7), (6, vQ 18446744073709551615)]) rfl (by kernel_rfl) (by kernel_rfl)) fun a HF => ?_
 refine fy HF HM 1 rfl rfl rfl (v := .agg #[vI 300, vI 1, vI 65536, vI 1, vQ 2, .bool true, vQ 128, vW 65535]) (Yl.build (vs := [(0, vI 300), (1, vI 1), (2, vI 65536), (3, vI 1), (4, vQ 2), (5, .bool true), (6, vQ 128), (7, vW 65535)]) rfl (by kernel_rfl) (by kernel_rfl)) fun a HF => ?_
 refine fy HF HM 2 rfl rfl rfl (v := .agg #[vI 65535, vI 0, vI 1, vI 2, vQ 4, .bool false, vQ 0, vW 0]) (Yl.build (vs := [(0, vI 65535), (2, vI 1), (3, vI 2), (4, vQ 4)]) rfl (by kernel_rfl) (by kernel_rfl)) fun a HF => ?_
 refine fo HF 3 rfl rfl ?_
 refine qt HF HM (vs := [(0, .agg #[vI 7, vI 2, vI 5, vI 0, vQ 7, .bool false, vQ 18446744073709551615, vW 0]), (1, .agg #[vI 300, vI 1, vI 65536, vI 1, vQ 2, .bool true, vQ 128, vW 65535]), (2, .agg #[vI 65535, vI 0, vI 1, vI 2, vQ 4, .bool false, vQ 0, vW 0])]) (cs := #[vI 7, vI 2, vI 5, vI 0, vQ 7, .bool false, vQ 18446744073709551615, vW 0, vI 300, vI 1, vI 65536, vI 1, vQ 2, .bool true, vQ 128, vW 65535, vI 65535, vI 0, vI 1, vI 2, vQ 4, .bool false, vQ 0, vW 0]) rfl ei_tk (by decide) rfl (by kernel_rfl) rfl (by decide) ?_
 clear HF HM; intro a w19 g19 HF HM
 refine fp HF 1 4 [(20, vP g1 5)] fun a HF => ?_
 refine fo HF 5 rfl rfl ?_
 refine q4 HF HM (i := 1) rfl rfl rfl rfl (by kernel_rfl) rfl rfl (by simp) ?_
 clear HM; intro w2_5 HM
 refine qb rfl ?_
 replace HM := HM.nil 44 1
 replace HM := HM.newTail 43 3
 replace HM : Mem w _ (.row (.slice none 0 0) 0 [] 44 1 :: .blk g19 #[vI 7, vI 2, vI 5, vI 0, vQ 7, .bool false, vQ 18446744073709551615, vW 0, vI 300, vI 1, vI 65536, vI 1, vQ 2, .bool true, vQ 128, vW 65535, vI 65535, vI 0, vI 1, vI 2, vQ 4, .bool false, vQ 0, vW 0] 46 :: .blk g1 #[vI 3, vQ 99, vS g11 3 3, vS g13 3 3, vS g14 3 3, vS g19 3 3, .slice none 0 0] 30 :: .blk g14 #[vI 0, vI 300, vI 0] 3 :: .blk g13 #[vI 1, vI 281474976710656, vI 0] 3 :: .blk g11 #[vI 0, vI 1, vI 0, vI 300, vI 1, vI 65536] 40 :: rwF 43 []) := HM
 refine wp_seq (wp_seq (qa ?_))
 refine fp HF 1 0 [(21, vI 0)] fun a HF => ?_
 refine qb rfl (wp_block ?_)
 refine qo (fun mS aS wS => ∃ (g : Nat) (z : List Rw) (As : Option Addr) (cs : Nat), (g ≤ 3) ∧ (z.length = g) ∧ (∀ y ∈ z, Rw3 y) ∧ (z.length ≤ cs) ∧ mS = 3 - g ∧ Fr aS 131 [] [(21, vI g), (1, vP g1 0)] ∧ Mem w wS (.blk g1 #[vI 3, vQ 99, vS g11 3 3, vS g13 3 3, vS g14 3 3, vS g19 3 3, .slice As z.length cs] 30 :: .row (.slice As z.length cs) z.length (z.map Rw.val) 44 1 :: .blk g19 #[vI 7, vI 2, vI 5, vI 0, vQ 7, .bool false, vQ 18446744073709551615, vW 0, vI 300, vI 1, vI 65536, vI 1, vQ 2, .bool true, vQ 128, vW 65535, vI 65535, vI 0, vI 1, vI 2, vQ 4, .bool false, vQ 0, vW 0] 46 :: .blk g14 #[vI 0, vI 300, vI 0] 3 :: .blk g13 #[vI 1, vI 281474976710656, vI 0] 3 :: .blk g11 #[vI 0, vI 1, vI 0, vI 300, vI 1, vI 65536] 40 :: rwF 43 z)) (m := 3 - 0) ⟨0, [], none, 0, Nat.zero_le _, rfl, (fun y h => by cases h), Nat.le_refl _, rfl, HF.sub (by kernel_rfl), HM.picksT 6 [2, 0, 1, 3, 4, 5] (by decide) (by decide) rfl⟩ ?_
 clear HF HM; rintro mS a w_ ⟨g, z, As, cs, hg, hzl, hz3, hcs, rfl, HF, HM⟩
 refine wp_seq (qa ?_)
 refine fp HF 1 0 [(22, .bool (decide ((g : Int) < (3 : Int))))] fun a HF => ?_
 refine qb rfl (wp_seq ?_)
 rcases HF.tf 22 rfl with ⟨hb22, HF⟩ | ⟨hb22, HF⟩
 ·
  have hd22 := of_decide_eq_true hb22
  have hg22 : g < 3 := by omega
  refine qd HF rfl (wp_skip (wp_seq (wp_block (wp_seq (qa ?_)))))
  refine fp HF 2 0 [(2, vI g)] fun a HF => ?_
  refine qb rfl (wp_seq ?_)
  refine qd6 HM (.blk g1 #[vI 3, vQ 99, vS g11 3 3, vS g13 3 3, vS g14 3 3, vS g19 3 3, .slice As z.length cs] 30 :: .blk g19 #[vI 7, vI 2, vI 5, vI 0, vQ 7, .bool false, vQ 18446744073709551615, vW 0, vI 300, vI 1, vI 65536, vI 1, vQ 2, .bool true, vQ 128, vW 65535, vI 65535, vI 0, vI 1, vI 2, vQ 4, .bool false, vQ 0, vW 0] 46 :: .blk g14 #[vI 0, vI 300, vI 0] 3 :: .blk g13 #[vI 1, vI 281474976710656, vI 0] 3 :: .blk g11 #[vI 0, vI 1, vI 0, vI 300, vI 1, vI 65536] 40 :: rwF 43 z) 6 [0, 2, 3, 4, 5] [6] fun HM HS => ?_
  refine ap HF (fun _ => HS) [0] #[true, false, false, false, false, false, false] [(24, vP g1 6)] fun a HF => ?_
  refine ay HF HS 1 rfl rfl rfl (v := .slice As z.length cs) (Yl.qf rfl rfl (by kernel_rfl) (fun _ h => h.cell (i := 0) rfl rfl)) fun a HF => ?_
  refine qm [2] (by kernel_rfl) rfl ?_
  refine all_cons ?_ all_nil
  refine qk HF (i := 2) rfl rfl ?_
  refine qoc HF HM (m := 3) rfl ei_sp rfl rfl (by omega) (by omega) rfl (by decide) ?_
  clear HF HM; intro a w26 g26 HF HM
  refine keepS (HM.picksT 7 [1, 3, 4, 5, 6] (by decide) (by decide) rfl) (fun HS => ?_)
  refine qm [3] (by kernel_rfl) rfl ?_
  refine all_cons ?_ all_nil
  refine qk HF (i := 3) rfl rfl ?_
  refine qt HF HM (vs := [(0, vS g26 3 3)]) (cs := #[vS g26 3 3]) rfl ei_rw (by decide) rfl (by kernel_rfl) rfl (by decide) ?_
  clear HF HM; intro a w27 g27 HF HM
  refine keepS (HM.picksT 8 [2, 4, 5, 6, 7] (by decide) (by decide) rfl) (fun HS => ?_)
  refine qm [4] (by kernel_rfl) rfl ?_
  refine all_cons ?_ all_nil
  refine qk HF (i := 4) rfl rfl ?_
  refine qw HF HM (i := 3) rfl ei_rw rfl rfl rfl (news := ([(⟨some ⟨g26, 0, none⟩, 3, [Sp.zero, Sp.zero, Sp.zero]⟩ : Rw)].map Rw.val)) (HM.rdBlk (i := 0) (n := 1) (size := 1) rfl rfl) (qpv _) (by omega) (by omega) rfl (by decide) ?_
  clear HF HM; intro a w28 A28 c28 HF HM hc28
  refine keepS (HM.picksT 8 [2, 4, 5, 6, 7] (by decide) (by decide) rfl) (fun HS => ?_)
  refine ap HF (fun _ => HS) [5] #[true, true, true, true, true, true, false] [(29, vP g1 6)] fun a HF => ?_
  refine qm [6] (by kernel_rfl) rfl ?_
  refine all_cons ?_ all_nil
  refine qk HF (i := 6) rfl rfl ?_
  refine q4 HF HM (i := 2) rfl rfl rfl rfl (by kernel_rfl) rfl rfl (by simp) ?_
  clear HM; intro w6_6 HM
  refine noS (by kernel_rfl) ?_
  refine qq (by kernel_rfl) ?_
  replace HM := HM.asRow (i := 1) (ys := ([Sp.zero, Sp.zero, Sp.zero] : List Sp).flatMap spL) rfl (by kernel_rfl)
  replace HM := HM.asRow (i := 3) (ys := (z ++ [(⟨some ⟨g26, 0, none⟩, 3, [Sp.zero, Sp.zero, Sp.zero]⟩ : Rw)]).map Rw.val) rfl (List.map_append.symm)
  refine wp_seq (qa ?_)
  refine fp HF 1 0 [(30, vI 0)] fun a HF => ?_
  refine qb rfl (wp_block ?_)
  refine qo (fun mS aS wS => ∃ (c : Nat) (l : List Sp), (c ≤ 3) ∧ (Sp3 l) ∧ mS = 3 - c ∧ Fr aS 131 [] [(30, vI c), (2, vI g), (21, vI g), (1, vP g1 0)] ∧ Mem w wS (.blk g1 #[vI 3, vQ 99, vS g11 3 3, vS g13 3 3, vS g14 3 3, vS g19 3 3, .slice A28 (z.length + 1) c28] 30 :: .row (.slice A28 (z.length + 1) c28) (z.length + 1) ((z ++ [(⟨some ⟨g26, 0, none⟩, 3, [Sp.zero, Sp.zero, Sp.zero]⟩ : Rw)]).map Rw.val) 44 1 :: .row (vS g26 3 3) 3 (l.flatMap spL) 43 3 :: .blk g19 #[vI 7, vI 2, vI 5, vI 0, vQ 7, .bool false, vQ 18446744073709551615, vW 0, vI 300, vI 1, vI 65536, vI 1, vQ 2, .bool true, vQ 128, vW 65535, vI 65535, vI 0, vI 1, vI 2, vQ 4, .bool false, vQ 0, vW 0] 46 :: .blk g14 #[vI 0, vI 300, vI 0] 3 :: .blk g13 #[vI 1, vI 281474976710656, vI 0] 3 :: .blk g11 #[vI 0, vI 1, vI 0, vI 300, vI 1, vI 65536] 40 :: rwF 43 z)) (m := 3 - 0) ⟨0, [Sp.zero, Sp.zero, Sp.zero], Nat.zero_le _, qs1, rfl, HF.sub (by kernel_rfl), HM.picksT 8 [2, 3, 1, 4, 5, 6, 7] (by decide) (by decide) rfl⟩ ?_
  clear HF HM; rintro mS a w_ ⟨c, l, hc, hl, rfl, HF, HM⟩
  refine wp_seq (qa ?_)
  refine fp HF 1 0 [(31, .bool (decide ((c : Int) < (3 : Int))))] fun a HF => ?_
  refine qb rfl (wp_seq ?_)
  rcases HF.tf 31 rfl with ⟨hb31, HF⟩ | ⟨hb31, HF⟩
  ·
   have hd31 := of_decide_eq_true hb31
   have hc31 : c < 3 := by omega
   refine qd HF rfl (wp_skip (wp_seq (wp_block (wp_seq (qa ?_)))))
   refine fp HF 2 0 [(3, vI c)] fun a HF => ?_
   refine qb rfl (wp_seq ?_)
   refine qd6 HM (.blk g1 #[vI 3, vQ 99, vS g11 3 3, vS g13 3 3, vS g14 3 3, vS g19 3 3, .slice A28 (z.length + 1) c28] 30 :: .row (.slice A28 (z.length + 1) c28) (z.length + 1) ((z ++ [(⟨some ⟨g26, 0, none⟩, 3, [Sp.zero, Sp.zero, Sp.zero]⟩ : Rw)]).map Rw.val) 44 1 :: .blk g19 #[vI 7, vI 2, vI 5, vI 0, vQ 7, .bool false, vQ 18446744073709551615, vW 0, vI 300, vI 1, vI 65536, vI 1, vQ 2, .bool true, vQ 128, vW 65535, vI 65535, vI 0, vI 1, vI 2, vQ 4, .bool false, vQ 0, vW 0] 46 :: .blk g14 #[vI 0, vI 300, vI 0] 3 :: .blk g13 #[vI 1, vI 281474976710656, vI 0] 3 :: .blk g11 #[vI 0, vI 1, vI 0, vI 300, vI 1, vI 65536] 40 :: rwF 43 z) 7 [0, 1, 3, 4, 5, 6] [] fun HM HS => ?_
   refine ap HF (fun _ => HS) [0, 2, 5, 6] #[true, false, true, false, false, true, true, false, false, false, false, false] [(39, vI g), (38, vI c), (35, vI g), (33, vP g1 6)] fun a HF => ?_
   refine ay HF HS 1 rfl rfl rfl (v := .slice A28 (z.length + 1) c28) (Yl.qf rfl rfl (by kernel_rfl) (fun _ h => h.cell (i := 0) rfl rfl)) fun a HF => ?_
   obtain ⟨gA28, rfl⟩ := zh (HM.own (i := 1) rfl) (Nat.lt_of_le_of_lt (Nat.zero_le _) (show g < z.length + 1 from by omega))
   refine ay HF HS 3 rfl rfl rfl (v := vP gA28 (g * 1)) (Yl.ix0 gA28 g 1 rfl rfl rfl) fun a HF => ?_
   refine ay HF HS 4 rfl rfl rfl (v := .slice ((⟨some ⟨g26, 0, none⟩, 3, [Sp.zero, Sp.zero, Sp.zero]⟩ : Rw).A) ((⟨some ⟨g26, 0, none⟩, 3, [Sp.zero, Sp.zero, Sp.zero]⟩ : Rw).l.length) ((⟨some ⟨g26, 0, none⟩, 3, [Sp.zero, Sp.zero, Sp.zero]⟩ : Rw).c)) (Yl.qf rfl rfl (by kernel_rfl) (fun _ h => h.qad (i := 1) rfl (k := g) (qz (F := Rw.val) (k := g) (x := (⟨some ⟨g26, 0, none⟩, 3, [Sp.zero, Sp.zero, Sp.zero]⟩ : Rw)) (qk6 hzl)))) fun a HF => ?_
   replace HF := HF.sp 37 (vS g26 3 3) rfl (rfl)
   refine q3 HF (fun _ => HS) (i := 7) rfl rfl (d := 40) rfl (by decide) (by kernel_rfl) (fun _ _ _ h => h) (v := vI (IntKind.i64.wrap (20 * (g : Int)))) (fun _ => Yl.pure (by kernel_rfl)) fun a HF => ?_
   replace HF := HF.sp 40 (vI (20 * g : Nat)) rfl (qi (by omega) (by omega))
   refine ay HF HS 8 rfl rfl rfl (v := vQ (1 * 2 ^ (20 * g) : Nat)) (Yl.shlN (m := 1) (n := (20 * g)) rfl rfl rfl (by show _ ≤ 64; omega) (sh20 hg22)) fun a HF => ?_
   refine ay HF HS 9 rfl rfl rfl (v := vP g26 (c * 3)) (Yl.ix0 g26 c 3 rfl rfl rfl) fun a HF => ?_
   refine ap HF (fun _ => HS) [10] #[true, true, true, true, true, true, true, true, true, true, true, false] [(43, vP g26 (c * 3 + 2))] fun a HF => ?_
   refine qm [11] (by kernel_rfl) rfl ?_
   refine all_cons ?_ all_nil
   refine qk HF (i := 11) rfl rfl ?_
   refine zu HF HM (i := 2) rfl rfl rfl rfl (by kernel_rfl) rfl rfl (by rw [qde spL 3 zr]; first | (rw [List.length_set]; have := h1.1; omega) | (have := h1.1; omega) | (have := hl.1; omega)) ?_
   clear HM; intro w10_11 HM
   replace HM := HM.asRow (i := 2) (ys := (l.set c ⟨(l.getD c Sp.zero).v, (l.getD c Sp.zero).r, 1 * 2 ^ (20 * g)⟩).flatMap spL) rfl (qrb (off := 2) hl hc31 (by decide) rfl)
   refine keepS (HM.picksT 7 [0, 1, 3, 4, 5, 6] (by decide) (by decide) rfl) (fun HS => ?_)
   refine qq (by kernel_rfl) ?_
   obtain ⟨l1, e1, h1⟩ : ∃ q, l.set c ⟨(l.getD c Sp.zero).v, (l.getD c Sp.zero).r, 1 * 2 ^ (20 * g)⟩ = q ∧ Sp3 q := ⟨_, rfl, hl.set c ⟨(hl.at hc31).v, (hl.at hc31).r, by have := sh20 hg22; show 1 * 2 ^ (20 * g) < _; omega⟩⟩
   rw [e1] at HM
   refine wp_seq (qa ?_)
   refine fp HF 2 0 [(45, .bool (decide ((g : Int) > (0 : Int))))] fun a HF => ?_
   refine qb rfl ?_
   rcases HF.tf 45 rfl with ⟨hb45, HF⟩ | ⟨hb45, HF⟩
   ·
    have hd45 := of_decide_eq_true hb45
    refine qd HF rfl ?_
    refine qd6 HM (.blk g1 #[vI 3, vQ 99, vS g11 3 3, vS g13 3 3, vS g14 3 3, vS g19 3 3, vS gA28 (z.length + 1) c28] 30 :: .row (vS gA28 (z.length + 1) c28) (z.length + 1) ((z ++ [(⟨some ⟨g26, 0, none⟩, 3, [Sp.zero, Sp.zero, Sp.zero]⟩ : Rw)]).map Rw.val) 44 1 :: .blk g19 #[vI 7, vI 2, vI 5, vI 0, vQ 7, .bool false, vQ 18446744073709551615, vW 0, vI 300, vI 1, vI 65536, vI 1, vQ 2, .bool true, vQ 128, vW 65535, vI 65535, vI 0, vI 1, vI 2, vQ 4, .bool false, vQ 0, vW 0] 46 :: .blk g14 #[vI 0, vI 300, vI 0] 3 :: .blk g13 #[vI 1, vI 281474976710656, vI 0] 3 :: .blk g11 #[vI 0, vI 1, vI 0, vI 300, vI 1, vI 65536] 40 :: rwF 43 z) 7 [0, 1, 3, 4, 5, 6] [] fun HM HS => ?_
    refine ap HF (fun _ => HS) [0, 2, 5, 6, 8, 11, 12, 14, 17] #[true, false, true, false, false, true, true, false, true, false, false, true, true, false, true, false, false, true, false, false, false, false, false, false, false] [(63, vI c), (60, vI g), (58, vI c), (57, vI c), (54, vI g), (52, vP g1 6), (51, vI c), (48, vI g), (46, vP g1 6)] fun a HF => ?_
    refine ay HF HS 1 rfl rfl rfl (v := vS gA28 (z.length + 1) c28) (Yl.qf rfl rfl (by kernel_rfl) (fun _ h => h.cell (i := 0) rfl rfl)) fun a HF => ?_
    refine ay HF HS 3 rfl rfl rfl (v := vP gA28 (g * 1)) (Yl.ix0 gA28 g 1 rfl rfl rfl) fun a HF => ?_
    refine ay HF HS 4 rfl rfl rfl (v := .slice ((⟨some ⟨g26, 0, none⟩, 3, [Sp.zero, Sp.zero, Sp.zero]⟩ : Rw).A) ((⟨some ⟨g26, 0, none⟩, 3, [Sp.zero, Sp.zero, Sp.zero]⟩ : Rw).l.length) ((⟨some ⟨g26, 0, none⟩, 3, [Sp.zero, Sp.zero, Sp.zero]⟩ : Rw).c)) (Yl.qf rfl rfl (by kernel_rfl) (fun _ h => h.qad (i := 1) rfl (k := g) (qz (F := Rw.val) (k := g) (x := (⟨some ⟨g26, 0, none⟩, 3, [Sp.zero, Sp.zero, Sp.zero]⟩ : Rw)) (qk6 hzl)))) fun a HF => ?_
    replace HF := HF.sp 50 (vS g26 3 3) rfl (rfl)
    refine ay HF HS 7 rfl rfl rfl (v := vS gA28 (z.length + 1) c28) (Yl.qf rfl rfl (by kernel_rfl) (fun _ h => h.cell (i := 0) rfl rfl)) fun a HF => ?_
    refine ay HF HS 9 rfl rfl rfl (v := vP gA28 (g * 1)) (Yl.ix0 gA28 g 1 rfl rfl rfl) fun a HF => ?_
    refine ay HF HS 10 rfl rfl rfl (v := .slice ((⟨some ⟨g26, 0, none⟩, 3, [Sp.zero, Sp.zero, Sp.zero]⟩ : Rw).A) ((⟨some ⟨g26, 0, none⟩, 3, [Sp.zero, Sp.zero, Sp.zero]⟩ : Rw).l.length) ((⟨some ⟨g26, 0, none⟩, 3, [Sp.zero, Sp.zero, Sp.zero]⟩ : Rw).c)) (Yl.qf rfl rfl (by kernel_rfl) (fun _ h => h.qad (i := 1) rfl (k := g) (qz (F := Rw.val) (k := g) (x := (⟨some ⟨g26, 0, none⟩, 3, [Sp.zero, Sp.zero, Sp.zero]⟩ : Rw)) (qk6 hzl)))) fun a HF => ?_
    replace HF := HF.sp 56 (vS g26 3 3) rfl (rfl)
    refine q3 HF (fun _ => HS) (i := 13) rfl rfl (d := 59) rfl (by decide) (by kernel_rfl) (fun _ _ _ h => h) (v := vQ (IntKind.u64.wrap (c : Int))) (fun _ => Yl.pure (by kernel_rfl)) fun a HF => ?_
    replace HF := HF.sp 59 (vQ c) rfl (qah rfl (by omega))
    refine q3 HF (fun _ => HS) (i := 15) rfl rfl (d := 61) rfl (by decide) (by kernel_rfl) (fun _ _ _ h => h) (v := vI (IntKind.i64.wrap (30 * (g : Int)))) (fun _ => Yl.pure (by kernel_rfl)) fun a HF => ?_
    replace HF := HF.sp 61 (vI (30 * g : Nat)) rfl (qi (by omega) (by omega))
    refine ay HF HS 16 rfl rfl rfl (v := vQ (c * 2 ^ (30 * g) : Nat)) (Yl.shlN (m := c) (n := (30 * g)) rfl rfl rfl (by show _ ≤ 64; omega) (sh30 hc31 hg22)) fun a HF => ?_
    refine q3 HF (fun _ => HS) (i := 18) rfl rfl (d := 64) rfl (by decide) (by kernel_rfl) (fun _ _ _ h => h) (v := vW (IntKind.u32.wrap (c : Int))) (fun _ => Yl.pure (by kernel_rfl)) fun a HF => ?_
    replace HF := HF.sp 64 (vW (c % 4294967296 : Nat)) rfl (qtv c)
    refine ay HF HS 19 rfl rfl rfl (v := vP g26 (c * 3)) (Yl.ix0 g26 c 3 rfl rfl rfl) fun a HF => ?_
    refine ap HF (fun _ => HS) [20] #[true, true, true, true, true, true, true, true, true, true, true, true, true, true, true, true, true, true, true, true, true, false, false, false, false] [(66, vP g26 (c * 3))] fun a HF => ?_
    refine qm [21] (by kernel_rfl) rfl ?_
    refine all_cons ?_ all_nil
    refine qk HF (i := 21) rfl rfl ?_
    refine zu HF HM (i := 2) rfl rfl rfl rfl (by kernel_rfl) rfl rfl (by rw [qde spL 3 zr]; first | (rw [List.length_set]; have := h1.1; omega) | (have := h1.1; omega) | (have := hl.1; omega)) ?_
    clear HM; intro w12_21 HM
    replace HM := HM.asRow (i := 2) (ys := (l1.set c ⟨c * 2 ^ (30 * g), (l1.getD c Sp.zero).r, (l1.getD c Sp.zero).floor⟩).flatMap spL) rfl (qrb (off := 0) h1 hc31 (by decide) rfl)
    refine keepS (HM.picksT 7 [0, 1, 3, 4, 5, 6] (by decide) (by decide) rfl) (fun HS => ?_)
    refine ay HF HS 22 rfl rfl rfl (v := vP g26 (c * 3)) (Yl.ix0 g26 c 3 rfl rfl rfl) fun a HF => ?_
    refine ap HF (fun _ => HS) [23] #[true, true, true, true, true, true, true, true, true, true, true, true, true, true, true, true, true, true, true, true, true, true, true, true, false] [(68, vP g26 (c * 3 + 1))] fun a HF => ?_
    refine qm [24] (by kernel_rfl) rfl ?_
    refine all_cons ?_ all_nil
    refine qk HF (i := 24) rfl rfl ?_
    refine zu HF HM (i := 2) rfl rfl rfl rfl (by kernel_rfl) rfl rfl (by rw [qde spL 3 zr]; first | (rw [List.length_set]; have := h1.1; omega) | (have := h1.1; omega) | (have := hl.1; omega)) ?_
    clear HM; intro w12_24 HM
    replace HM := HM.asRow (i := 2) (ys := ((l1.set c ⟨c * 2 ^ (30 * g), (l1.getD c Sp.zero).r, (l1.getD c Sp.zero).floor⟩).set c ⟨((l1.set c ⟨c * 2 ^ (30 * g), (l1.getD c Sp.zero).r, (l1.getD c Sp.zero).floor⟩).getD c Sp.zero).v, c % 4294967296, ((l1.set c ⟨c * 2 ^ (30 * g), (l1.getD c Sp.zero).r, (l1.getD c Sp.zero).floor⟩).getD c Sp.zero).floor⟩).flatMap spL) rfl (qrb (off := 1) (h1.set c (show Sp.Ok ⟨c * 2 ^ (30 * g), (l1.getD c Sp.zero).r, (l1.getD c Sp.zero).floor⟩ from ⟨by have := sh30 hc31 hg22; show c * 2 ^ (30 * g) < _; omega, (h1.at hc31).r, (h1.at hc31).floor⟩)) hc31 (by decide) rfl)
    refine keepS (HM.picksT 7 [0, 1, 3, 4, 5, 6] (by decide) (by decide) rfl) (fun HS => ?_)
    refine qq (by kernel_rfl) ?_
    replace HF := HF.to [(45, .bool true), (3, vI c), (31, .bool true), (30, vI c), (2, vI g), (21, vI g), (1, vP g1 0)]
    obtain ⟨l2, e2, h2⟩ : ∃ q, ((l1.set c ⟨c * 2 ^ (30 * g), (l1.getD c Sp.zero).r, (l1.getD c Sp.zero).floor⟩).set c ⟨((l1.set c ⟨c * 2 ^ (30 * g), (l1.getD c Sp.zero).r, (l1.getD c Sp.zero).floor⟩).getD c Sp.zero).v, c % 4294967296, ((l1.set c ⟨c * 2 ^ (30 * g), (l1.getD c Sp.zero).r, (l1.getD c Sp.zero).floor⟩).getD c Sp.zero).floor⟩) = q ∧ Sp3 q := ⟨_, rfl, (h1.set c (show Sp.Ok ⟨c * 2 ^ (30 * g), (l1.getD c Sp.zero).r, (l1.getD c Sp.zero).floor⟩ from ⟨by have := sh30 hc31 hg22; show c * 2 ^ (30 * g) < _; omega, (h1.at hc31).r, (h1.at hc31).floor⟩)).set c (x := ⟨((l1.set c ⟨c * 2 ^ (30 * g), (l1.getD c Sp.zero).r, (l1.getD c Sp.zero).floor⟩).getD c Sp.zero).v, c % 4294967296, ((l1.set c ⟨c * 2 ^ (30 * g), (l1.getD c Sp.zero).r, (l1.getD c Sp.zero).floor⟩).getD c Sp.zero).floor⟩) ⟨((h1.set c (show Sp.Ok ⟨c * 2 ^ (30 * g), (l1.getD c Sp.zero).r, (l1.getD c Sp.zero).floor⟩ from ⟨by have := sh30 hc31 hg22; show c * 2 ^ (30 * g) < _; omega, (h1.at hc31).r, (h1.at hc31).floor⟩)).at hc31).v, by show c % 4294967296 < _; omega, ((h1.set c (show Sp.Ok ⟨c * 2 ^ (30 * g), (l1.getD c Sp.zero).r, (l1.getD c Sp.zero).floor⟩ from ⟨by have := sh30 hc31 hg22; show c * 2 ^ (30 * g) < _; omega, (h1.at hc31).r, (h1.at hc31).floor⟩)).at hc31).floor⟩⟩
    rw [e2] at HM
    refine qa ?_
    refine fp HF 1 0 [(69, vI (IntKind.i64.wrap ((c : Int) + 1)))] fun a HF => ?_
    replace HF := HF.sp 69 (vI (c + 1 : Nat)) rfl (qi (by omega) (by omega))
    refine fp HF 1 1 [(30, vI (c + 1 : Nat))] fun a HF => ?_
    refine qb rfl ?_
    exact ⟨_, (by omega), c + 1, l2, by omega, h2, rfl, HF.sub (by kernel_rfl), HM.picksT 7 [0, 1, 2, 3, 4, 5, 6] (by decide) (by decide) rfl⟩
   have hd45 := of_decide_eq_false hb45
   refine qc HF rfl (wp_skip (qa ?_))
   refine fp HF 1 0 [(69, vI (IntKind.i64.wrap ((c : Int) + 1)))] fun a HF => ?_
   replace HF := HF.sp 69 (vI (c + 1 : Nat)) rfl (qi (by omega) (by omega))
   refine fp HF 1 1 [(30, vI (c + 1 : Nat))] fun a HF => ?_
   refine qb rfl ?_
   exact ⟨_, (by omega), c + 1, l1, by omega, h1, rfl, HF.sub (by kernel_rfl), HM.picksT 7 [0, 1, 2, 3, 4, 5, 6] (by decide) (by decide) rfl⟩
  have hd31 := of_decide_eq_false hb31
  refine qc HF rfl (wp_exit (qa ?_))
  refine fp HF 1 0 [(70, vI (IntKind.i64.wrap ((g : Int) + 1)))] fun a HF => ?_
  replace HF := HF.sp 70 (vI (g + 1 : Nat)) rfl (qi (by omega) (by omega))
  refine fp HF 1 1 [(21, vI (g + 1 : Nat))] fun a HF => ?_
  refine qb rfl ?_
  have hl3 : 3 = l.length := hl.1.symm
  replace HM := HM.reRow (i := 2) (ys := l.flatMap spL) rfl hl3 rfl
  have hzn : z.length + 1 = (z ++ [(⟨some ⟨g26, 0, none⟩, 3, l⟩ : Rw)]).length := zd rfl
  replace HM := HM.reRow (i := 1) (ys := (z ++ [(⟨some ⟨g26, 0, none⟩, 3, l⟩ : Rw)]).map Rw.val) rfl hzn (qs0 hl3)
  rw [hzn] at HM hc28
  replace HM := HM.picksT (fs' := (.row (vS g26 l.length 3) l.length (l.flatMap spL) 43 3 :: .blk g1 #[vI 3, vQ 99, vS g11 3 3, vS g13 3 3, vS g14 3 3, vS g19 3 3, .slice A28 ((z ++ [(⟨some ⟨g26, 0, none⟩, 3, l⟩ : Rw)]).length) c28] 30 :: .row (.slice A28 ((z ++ [(⟨some ⟨g26, 0, none⟩, 3, l⟩ : Rw)]).length) c28) ((z ++ [(⟨some ⟨g26, 0, none⟩, 3, l⟩ : Rw)]).length) ((z ++ [(⟨some ⟨g26, 0, none⟩, 3, l⟩ : Rw)]).map Rw.val) 44 1 :: .blk g19 #[vI 7, vI 2, vI 5, vI 0, vQ 7, .bool false, vQ 18446744073709551615, vW 0, vI 300, vI 1, vI 65536, vI 1, vQ 2, .bool true, vQ 128, vW 65535, vI 65535, vI 0, vI 1, vI 2, vQ 4, .bool false, vQ 0, vW 0] 46 :: .blk g14 #[vI 0, vI 300, vI 0] 3 :: .blk g13 #[vI 1, vI 281474976710656, vI 0] 3 :: .blk g11 #[vI 0, vI 1, vI 0, vI 300, vI 1, vI 65536] 40 :: rwF 43 z)) 7 [2, 0, 1, 3, 4, 5, 6] (by decide) (by decide) rfl
  replace HM := Mem.toRw (fs := [.blk g1 #[vI 3, vQ 99, vS g11 3 3, vS g13 3 3, vS g14 3 3, vS g19 3 3, .slice A28 ((z ++ [(⟨some ⟨g26, 0, none⟩, 3, l⟩ : Rw)]).length) c28] 30, .row (.slice A28 ((z ++ [(⟨some ⟨g26, 0, none⟩, 3, l⟩ : Rw)]).length) c28) ((z ++ [(⟨some ⟨g26, 0, none⟩, 3, l⟩ : Rw)]).length) ((z ++ [(⟨some ⟨g26, 0, none⟩, 3, l⟩ : Rw)]).map Rw.val) 44 1, .blk g19 #[vI 7, vI 2, vI 5, vI 0, vQ 7, .bool false, vQ 18446744073709551615, vW 0, vI 300, vI 1, vI 65536, vI 1, vQ 2, .bool true, vQ 128, vW 65535, vI 65535, vI 0, vI 1, vI 2, vQ 4, .bool false, vQ 0, vW 0] 46, .blk g14 #[vI 0, vI 300, vI 0] 3, .blk g13 #[vI 1, vI 281474976710656, vI 0] 3, .blk g11 #[vI 0, vI 1, vI 0, vI 300, vI 1, vI 65536] 40]) HM
  replace HM : Mem w _ (.blk g1 #[vI 3, vQ 99, vS g11 3 3, vS g13 3 3, vS g14 3 3, vS g19 3 3, .slice A28 ((z ++ [(⟨some ⟨g26, 0, none⟩, 3, l⟩ : Rw)]).length) c28] 30 :: .row (.slice A28 ((z ++ [(⟨some ⟨g26, 0, none⟩, 3, l⟩ : Rw)]).length) c28) ((z ++ [(⟨some ⟨g26, 0, none⟩, 3, l⟩ : Rw)]).length) ((z ++ [(⟨some ⟨g26, 0, none⟩, 3, l⟩ : Rw)]).map Rw.val) 44 1 :: .blk g19 #[vI 7, vI 2, vI 5, vI 0, vQ 7, .bool false, vQ 18446744073709551615, vW 0, vI 300, vI 1, vI 65536, vI 1, vQ 2, .bool true, vQ 128, vW 65535, vI 65535, vI 0, vI 1, vI 2, vQ 4, .bool false, vQ 0, vW 0] 46 :: .blk g14 #[vI 0, vI 300, vI 0] 3 :: .blk g13 #[vI 1, vI 281474976710656, vI 0] 3 :: .blk g11 #[vI 0, vI 1, vI 0, vI 300, vI 1, vI 65536] 40 :: rwF 43 (z ++ [(⟨some ⟨g26, 0, none⟩, 3, l⟩ : Rw)])) := HM
  exact ⟨_, (by omega), g + 1, (z ++ [(⟨some ⟨g26, 0, none⟩, 3, l⟩ : Rw)]), A28, c28, by omega, by rw [← hzn, hzl], (fun y h => (List.mem_append.1 h).elim (hz3 y) (fun h => by rw [List.mem_singleton] at h; subst h; exact ⟨hl, Nat.le_refl 3⟩)), hc28, rfl, HF.sub (by kernel_rfl), HM.picksT 6 [0, 1, 2, 3, 4, 5] (by decide) (by decide) rfl⟩
 have hd22 := of_decide_eq_false hb22
 obtain ⟨⟨P0, k0, q0⟩, ⟨P1, k1, q1⟩, ⟨P2, k2, q2⟩, rfl⟩ := qfz (show z.length = 3 by omega)
 obtain ⟨⟨hq0, hk0⟩, hj0⟩ := And.intro (hz3 ⟨P0, k0, q0⟩ (by simp)) trivial
 obtain ⟨⟨hq1, hk1⟩, hj1⟩ := And.intro (hz3 ⟨P1, k1, q1⟩ (by simp)) trivial
 obtain ⟨⟨hq2, hk2⟩, hj2⟩ := And.intro (hz3 ⟨P2, k2, q2⟩ (by simp)) trivial
 obtain ⟨a0, b0, d0, rfl, ha0, hb0, hd0⟩ := qh7 hq0
 replace hk0 : 3 ≤ k0 := hk0
 obtain ⟨a1, b1, d1, rfl, ha1, hb1, hd1⟩ := qh7 hq1
 replace hk1 : 3 ≤ k1 := hk1
 obtain ⟨a2, b2, d2, rfl, ha2, hb2, hd2⟩ := qh7 hq2
 replace hk2 : 3 ≤ k2 := hk2
 clear hz3; replace hcs : 3 ≤ cs := hcs
 replace HM : Mem w _ [.blk g1 #[vI 3, vQ 99, vS g11 3 3, vS g13 3 3, vS g14 3 3, vS g19 3 3, .slice As 3 cs] 30, .row (.slice As 3 cs) 3 (([⟨P0, k0, [a0, b0, d0]⟩, ⟨P1, k1, [a1, b1, d1]⟩, ⟨P2, k2, [a2, b2, d2]⟩] : List Rw).map Rw.val) 44 1, .blk g19 #[vI 7, vI 2, vI 5, vI 0, vQ 7, .bool false, vQ 18446744073709551615, vW 0, vI 300, vI 1, vI 65536, vI 1, vQ 2, .bool true, vQ 128, vW 65535, vI 65535, vI 0, vI 1, vI 2, vQ 4, .bool false, vQ 0, vW 0] 46, .blk g14 #[vI 0, vI 300, vI 0] 3, .blk g13 #[vI 1, vI 281474976710656, vI 0] 3, .blk g11 #[vI 0, vI 1, vI 0, vI 300, vI 1, vI 65536] 40, .row (.slice P0 3 k0) 3 (([a0, b0, d0] : List Sp).flatMap spL) 43 3, .row (.slice P1 3 k1) 3 (([a1, b1, d1] : List Sp).flatMap spL) 43 3, .row (.slice P2 3 k2) 3 (([a2, b2, d2] : List Sp).flatMap spL) 43 3] := HM
 refine qc HF rfl (wp_exit (wp_seq (qa ?_)))
 refine fy HF HM 0 rfl rfl rfl (v := .agg #[vI 3, vQ 99, vS g11 3 3, vS g13 3 3, vS g14 3 3, vS g19 3 3, .slice As 3 cs]) (Yl.qr rfl rfl si_st rfl (fun _ h => qe (h.blk (i := 0) rfl))) fun a HF => ?_
 refine fy HF HM 1 rfl rfl rfl (v := .agg #[vI 281474976710656, vI 3, vQ 99, vS g11 3 3, vS g13 3 3, vS g14 3 3, vS g19 3 3, .slice As 3 cs]) (Yl.build (vs := [(0, vI 281474976710656), (1, .agg #[vI 3, vQ 99, vS g11 3 3, vS g13 3 3, vS g14 3 3, vS g19 3 3, .slice As 3 cs])]) rfl (by kernel_rfl) (by kernel_rfl)) fun a HF => ?_
 refine fo HF 2 rfl rfl ?_
 refine qs HF HM (cs := #[vI 0, vI 0, vQ 0, .slice none 0 0, .slice none 0 0, .slice none 0 0, .slice none 0 0, .slice none 0 0]) rfl (by kernel_rfl) rfl (by decide) ?_
 clear HF HM; intro a w4 g4 HF HM
 refine fo HF 3 rfl rfl ?_
 refine e_sa HF HM 0 rfl rfl rfl rfl rfl qx rfl rfl (by simp [Value.oneCell']) ?_
 clear HM; intro w15_3 HM
 refine qb rfl (wp_seq (wp_seq (qa ?_)))
 refine fy HF HM 0 rfl rfl rfl (v := .agg #[vI 281474976710656, vI 3, vQ 99, vS g11 3 3, vS g13 3 3, vS g14 3 3, vS g19 3 3, .slice As 3 cs]) (Yl.qr rfl rfl qx rfl (fun _ h => qe (h.blk (i := 0) rfl))) fun a HF => ?_
 refine fy HF HM 1 rfl rfl rfl (v := .agg #[vI 281474976710656, vI 3, vQ 99, vS g11 3 3, vS g13 3 3, vS g14 3 3, vS g19 3 3, .slice As 3 cs]) (Yl.qr rfl rfl qx rfl (fun _ h => qe (h.blk (i := 0) rfl))) fun a HF => ?_
 refine fo HF 2 rfl rfl ?_
 refine e_is HF HM [.agg #[vI 281474976710656, vI 3, vQ 99, vS g11 3 3, vS g13 3 3, vS g14 3 3, vS g19 3 3, .slice As 3 cs], .agg #[vI 281474976710656, vI 3, vQ 99, vS g11 3 3, vS g13 3 3, vS g14 3 3, vS g19 3 3, .slice As 3 cs]] (.bool true) rfl rfl (z3 (⟨281474976710656, ⟨3, 99, some ⟨g11, 0, none⟩, 3, [⟨0, 1⟩, ⟨0, 300⟩, ⟨1, 65536⟩], some ⟨g13, 0, none⟩, 3, [1, 281474976710656, 0], some ⟨g14, 0, none⟩, 3, [0, 300, 0], some ⟨g19, 0, none⟩, 3, [⟨7, 2, 5, 0, 7, false, 18446744073709551615, 0⟩, ⟨300, 1, 65536, 1, 2, true, 128, 65535⟩, ⟨65535, 0, 1, 2, 4, false, 0, 0⟩], As, cs, [⟨P0, k0, [a0, b0, d0]⟩, ⟨P1, k1, [a1, b1, d1]⟩, ⟨P2, k2, [a2, b2, d2]⟩]⟩⟩ : Snm) (⟨281474976710656, ⟨3, 99, some ⟨g11, 0, none⟩, 3, [⟨0, 1⟩, ⟨0, 300⟩, ⟨1, 65536⟩], some ⟨g13, 0, none⟩, 3, [1, 281474976710656, 0], some ⟨g14, 0, none⟩, 3, [0, 300, 0], some ⟨g19, 0, none⟩, 3, [⟨7, 2, 5, 0, 7, false, 18446744073709551615, 0⟩, ⟨300, 1, 65536, 1, 2, true, 128, 65535⟩, ⟨65535, 0, 1, 2, 4, false, 0, 0⟩], As, cs, [⟨P0, k0, [a0, b0, d0]⟩, ⟨P1, k1, [a1, b1, d1]⟩, ⟨P2, k2, [a2, b2, d2]⟩]⟩⟩ : Snm) ⟨(show I64 3 from (show I64 (3) by unfold I64; decide)), (show 99 < 18446744073709551616 from (show 99 < 18446744073709551616 by decide)), qj ⟨(show I64 (0) by unfold I64; decide), (show I64 (1) by unfold I64; decide)⟩ ⟨(show I64 (0) by unfold I64; decide), (show I64 (300) by unfold I64; decide)⟩ ⟨(show I64 (1) by unfold I64; decide), (show I64 (65536) by unfold I64; decide)⟩, qj (show I64 (1) by unfold I64; decide) (show I64 (281474976710656) by unfold I64; decide) (show I64 (0) by unfold I64; decide), qj (show I64 (0) by unfold I64; decide) (show I64 (300) by unfold I64; decide) (show I64 (0) by unfold I64; decide), qj ⟨(show I64 (7) by unfold I64; decide), (show I64 (2) by unfold I64; decide), (show I64 (5) by unfold I64; decide), (show I64 (0) by unfold I64; decide), (show 7 < 18446744073709551616 by decide), (show 18446744073709551615 < 18446744073709551616 by decide), (show 0 < 4294967296 by decide)⟩ ⟨(show I64 (300) by unfold I64; decide), (show I64 (1) by unfold I64; decide), (show I64 (65536) by unfold I64; decide), (show I64 (1) by unfold I64; decide), (show 2 < 18446744073709551616 by decide), (show 128 < 18446744073709551616 by decide), (show 65535 < 4294967296 by decide)⟩ ⟨(show I64 (65535) by unfold I64; decide), (show I64 (0) by unfold I64; decide), (show I64 (1) by unfold I64; decide), (show I64 (2) by unfold I64; decide), (show 4 < 18446744073709551616 by decide), (show 0 < 18446744073709551616 by decide), (show 0 < 4294967296 by decide)⟩, qj (qj ha0 hb0 hd0) (qj ha1 hb1 hd1) (qj ha2 hb2 hd2)⟩ ⟨Nat.le_of_ble_eq_true rfl, Nat.le_of_ble_eq_true rfl, Nat.le_of_ble_eq_true rfl, Nat.le_of_ble_eq_true rfl, Nat.le_of_ble_eq_true rfl, qj (Nat.le_of_ble_eq_true rfl) (Nat.le_of_ble_eq_true rfl) (Nat.le_of_ble_eq_true rfl)⟩ ⟨(Nat.le_of_ble_eq_true rfl), (Nat.le_of_ble_eq_true rfl), (Nat.le_of_ble_eq_true rfl), (Nat.le_of_ble_eq_true rfl), hcs, qj hk0 hk1 hk2⟩ ⟨Nat.le_of_ble_eq_true rfl, Nat.le_of_ble_eq_true rfl, Nat.le_of_ble_eq_true rfl, Nat.le_of_ble_eq_true rfl, Nat.le_of_ble_eq_true rfl, qj (Nat.le_of_ble_eq_true rfl) (Nat.le_of_ble_eq_true rfl) (Nat.le_of_ble_eq_true rfl)⟩ B _ (hL.mem HM hB) (HM.le hB) ⟨(HM.rdBlk (i := 6) (n := 3) (size := 2) rfl rfl), (HM.rdBlk (i := 5) (n := 3) (size := 1) rfl rfl), (HM.rdBlk (i := 4) (n := 3) (size := 1) rfl rfl), (HM.rdBlk (i := 3) (n := 3) (size := 8) rfl rfl), (HM.rd (i := 2) rfl), qj (HM.rd (i := 7) rfl) (HM.rd (i := 8) rfl) (HM.rd (i := 9) rfl)⟩ ⟨(HM.rdBlk (i := 6) (n := 3) (size := 2) rfl rfl), (HM.rdBlk (i := 5) (n := 3) (size := 1) rfl rfl), (HM.rdBlk (i := 4) (n := 3) (size := 1) rfl rfl), (HM.rdBlk (i := 3) (n := 3) (size := 8) rfl rfl), (HM.rd (i := 2) rfl), qj (HM.rd (i := 7) rfl) (HM.rd (i := 8) rfl) (HM.rd (i := 9) rfl)⟩) fun w75 hbw HM a HF => ?_
 refine fp HF 1 3 [(76, .bool false)] fun a HF => ?_
 refine qb rfl (qc HF rfl (wp_skip (wp_seq (wp_seq (qa ?_)))))
 refine fp HF 1 0 [(77, vP g1 5)] fun a HF => ?_
 refine fy HF HM 1 rfl rfl rfl (v := vS g19 3 3) (Yl.qf rfl rfl (by kernel_rfl) (fun _ h => h.cell (i := 1) rfl rfl)) fun a HF => ?_
 refine fy HF HM 2 rfl rfl rfl (v := vI 3) (Yl.len rfl rfl (by kernel_rfl)) fun a HF => ?_
 refine fp HF 1 3 [(80, vI 0)] fun a HF => ?_
 refine qb rfl (wp_block ?_)
 refine qo (fun mS aS wS => ∃ (i : Nat), (i ≤ 3) ∧ mS = 3 - i ∧ Fr aS 131 [] [(80, vI i), (79, vI 3), (4, vP g4 0), (1, vP g1 0)] ∧ Mem w wS [.blk g4 #[vI 281474976710656, vI 3, vQ 99, vS g11 3 3, vS g13 3 3, vS g14 3 3, vS g19 3 3, .slice As 3 cs] 32, .blk g1 #[vI 3, vQ 99, vS g11 3 3, vS g13 3 3, vS g14 3 3, vS g19 3 3, .slice As 3 cs] 30, .row (.slice As 3 cs) 3 (([⟨P0, k0, [a0, b0, d0]⟩, ⟨P1, k1, [a1, b1, d1]⟩, ⟨P2, k2, [a2, b2, d2]⟩] : List Rw).map Rw.val) 44 1, .blk g19 #[vI 7, vI 2, vI 5, vI 0, vQ 7, .bool false, vQ 18446744073709551615, vW 0, vI 300, vI 1, vI 65536, vI 1, vQ 2, .bool true, vQ 128, vW 65535, vI 65535, vI 0, vI 1, vI 2, vQ 4, .bool false, vQ 0, vW 0] 46, .blk g14 #[vI 0, vI 300, vI 0] 3, .blk g13 #[vI 1, vI 281474976710656, vI 0] 3, .blk g11 #[vI 0, vI 1, vI 0, vI 300, vI 1, vI 65536] 40, .row (.slice P0 3 k0) 3 (([a0, b0, d0] : List Sp).flatMap spL) 43 3, .row (.slice P1 3 k1) 3 (([a1, b1, d1] : List Sp).flatMap spL) 43 3, .row (.slice P2 3 k2) 3 (([a2, b2, d2] : List Sp).flatMap spL) 43 3]) (m := 3 - 0) ⟨0, Nat.zero_le _, rfl, HF.sub (by kernel_rfl), HM.picks [0, 1, 2, 3, 4, 5, 6, 7, 8, 9] (by decide) rfl⟩ ?_
 clear HF HM; rintro mS a w_ ⟨i, hi, rfl, HF, HM⟩
 refine wp_seq (qa ?_)
 refine fp HF 1 0 [(81, .bool (decide ((i : Int) < (3 : Int))))] fun a HF => ?_
 refine qb rfl (wp_seq ?_)
 rcases HF.tf 81 rfl with ⟨hb81, HF⟩ | ⟨hb81, HF⟩
 ·
  have hd81 := of_decide_eq_true hb81
  obtain rfl | rfl | rfl : i = 0 ∨ i = 1 ∨ i = 2 := by omega
  ·
   replace HF := HF.as (t := 80) (u := vI 0) rfl rfl
   refine qd HF rfl (wp_skip (wp_seq (wp_block (wp_seq (qa ?_)))))
   refine fp HF 2 0 [(5, vI 0)] fun a HF => ?_
   refine qb rfl (wp_seq (qa ?_))
   refine fy HF HM 0 rfl rfl rfl (v := .agg #[vI 3, vQ 99, vS g11 3 3, vS g13 3 3, vS g14 3 3, vS g19 3 3, .slice As 3 cs]) (Yl.qr rfl rfl si_st rfl (fun _ h => qe (h.blk (i := 1) rfl))) fun a HF => ?_
   refine fo HF 1 rfl rfl ?_
   refine e_cl HF [.agg #[vI 3, vQ 99, vS g11 3 3, vS g13 3 3, vS g14 3 3, vS g19 3 3, .slice As 3 cs]] rfl rfl (qbw (x := (⟨0, ⟨3, 99, some ⟨g11, 0, none⟩, 3, [⟨0, 1⟩, ⟨0, 300⟩, ⟨1, 65536⟩], some ⟨g13, 0, none⟩, 3, [1, 281474976710656, 0], some ⟨g14, 0, none⟩, 3, [0, 300, 0], some ⟨g19, 0, none⟩, 3, [⟨7, 2, 5, 0, 7, false, 18446744073709551615, 0⟩, ⟨300, 1, 65536, 1, 2, true, 128, 65535⟩, ⟨65535, 0, 1, 2, 4, false, 0, 0⟩], As, cs, [⟨P0, k0, [a0, b0, d0]⟩, ⟨P1, k1, [a1, b1, d1]⟩, ⟨P2, k2, [a2, b2, d2]⟩]⟩⟩ : Snm).st) rfl _ ⟨(HM.rdBlk (i := 6) (n := 3) (size := 2) rfl rfl), (HM.rdBlk (i := 5) (n := 3) (size := 1) rfl rfl), (HM.rdBlk (i := 4) (n := 3) (size := 1) rfl rfl), (HM.rdBlk (i := 3) (n := 3) (size := 8) rfl rfl), (HM.rd (i := 2) rfl), qj (HM.rd (i := 7) rfl) (HM.rd (i := 8) rfl) (HM.rd (i := 9) rfl)⟩ ⟨Nat.le_of_ble_eq_true rfl, Nat.le_of_ble_eq_true rfl, Nat.le_of_ble_eq_true rfl, Nat.le_of_ble_eq_true rfl, Nat.le_of_ble_eq_true rfl, qj (Nat.le_of_ble_eq_true rfl) (Nat.le_of_ble_eq_true rfl) (Nat.le_of_ble_eq_true rfl)⟩) ?_
   rintro _ w84 ⟨gAt, lAt, uAt, tAt, sAt, A0t, A1t, A2t, gct, lct, uct, tct, sct, c0t, c1t, c2t, rfl, hgct, hlct, huct, htct, hsct, hc0t, hc1t, hc2t, hm⟩
   refine ⟨_, rfl, ?_⟩
   replace HM := (show Mem w _ [.row (.slice gAt 3 gct) 3 (([⟨0, 1⟩, ⟨0, 300⟩, ⟨1, 65536⟩] : List Gr).flatMap grL) 40 2, .row (.slice lAt 3 lct) 3 (([1, 281474976710656, 0] : List Int).map I64i) 3 1, .row (.slice uAt 3 uct) 3 (([0, 300, 0] : List Int).map I64i) 3 1, .row (.slice tAt 3 tct) 3 (([⟨7, 2, 5, 0, 7, false, 18446744073709551615, 0⟩, ⟨300, 1, 65536, 1, 2, true, 128, 65535⟩, ⟨65535, 0, 1, 2, 4, false, 0, 0⟩] : List Tk).flatMap tkL) 46 8, .row (.slice sAt 3 sct) 3 (([⟨A0t, c0t, [a0, b0, d0]⟩, ⟨A1t, c1t, [a1, b1, d1]⟩, ⟨A2t, c2t, [a2, b2, d2]⟩] : List Rw).map Rw.val) 44 1, .row (.slice A0t 3 c0t) 3 (([a0, b0, d0] : List Sp).flatMap spL) 43 3, .row (.slice A1t 3 c1t) 3 (([a1, b1, d1] : List Sp).flatMap spL) 43 3, .row (.slice A2t 3 c2t) 3 (([a2, b2, d2] : List Sp).flatMap spL) 43 3, .blk g4 #[vI 281474976710656, vI 3, vQ 99, vS g11 3 3, vS g13 3 3, vS g14 3 3, vS g19 3 3, .slice As 3 cs] 32, .blk g1 #[vI 3, vQ 99, vS g11 3 3, vS g13 3 3, vS g14 3 3, vS g19 3 3, .slice As 3 cs] 30, .row (.slice As 3 cs) 3 (([⟨P0, k0, [a0, b0, d0]⟩, ⟨P1, k1, [a1, b1, d1]⟩, ⟨P2, k2, [a2, b2, d2]⟩] : List Rw).map Rw.val) 44 1, .blk g19 #[vI 7, vI 2, vI 5, vI 0, vQ 7, .bool false, vQ 18446744073709551615, vW 0, vI 300, vI 1, vI 65536, vI 1, vQ 2, .bool true, vQ 128, vW 65535, vI 65535, vI 0, vI 1, vI 2, vQ 4, .bool false, vQ 0, vW 0] 46, .blk g14 #[vI 0, vI 300, vI 0] 3, .blk g13 #[vI 1, vI 281474976710656, vI 0] 3, .blk g11 #[vI 0, vI 1, vI 0, vI 300, vI 1, vI 65536] 40, .row (.slice P0 3 k0) 3 (([a0, b0, d0] : List Sp).flatMap spL) 43 3, .row (.slice P1 3 k1) 3 (([a1, b1, d1] : List Sp).flatMap spL) 43 3, .row (.slice P2 3 k2) 3 (([a2, b2, d2] : List Sp).flatMap spL) 43 3] from HM.join hm)
   clear HF; intro a HF
   replace hgct : 3 ≤ gct := hgct
   replace hlct : 3 ≤ lct := hlct
   replace huct : 3 ≤ uct := huct
   replace htct : 3 ≤ tct := htct
   replace hsct : 3 ≤ sct := hsct
   replace hc0t : 3 ≤ c0t := hc0t
   replace hc1t : 3 ≤ c1t := hc1t
   replace hc2t : 3 ≤ c2t := hc2t
   refine fy HF HM 2 rfl rfl rfl (v := .agg #[vI 1, vI 3, vQ 99, .slice gAt 3 gct, .slice lAt 3 lct, .slice uAt 3 uct, .slice tAt 3 tct, .slice sAt 3 sct]) (Yl.build (vs := [(0, vI 1), (1, .agg #[vI 3, vQ 99, .slice gAt 3 gct, .slice lAt 3 lct, .slice uAt 3 uct, .slice tAt 3 tct, .slice sAt 3 sct])]) rfl (by kernel_rfl) (by kernel_rfl)) fun a HF => ?_
   refine fo HF 3 rfl rfl ?_
   refine qs HF HM (cs := #[vI 0, vI 0, vQ 0, .slice none 0 0, .slice none 0 0, .slice none 0 0, .slice none 0 0, .slice none 0 0]) rfl (by kernel_rfl) rfl (by decide) ?_
   clear HF HM; intro a w6 g6 HF HM
   refine fo HF 4 rfl rfl ?_
   refine e_sa HF HM 0 rfl rfl rfl rfl rfl qx rfl rfl (by simp [Value.oneCell']) ?_
   clear HM; intro w21_4 HM
   refine qb rfl ?_
   obtain ⟨gtAt, rfl⟩ := zh (HM.own (i := 4) rfl) (Nat.lt_of_le_of_lt (Nat.zero_le _) (show 0 < 3 from (by decide : 0 < 3)))
   refine wp_seq ?_
   refine zc HM [.blk g6 #[vI 1, vI 3, vQ 99, .slice gAt 3 gct, .slice lAt 3 lct, .slice uAt 3 uct, vS gtAt 3 tct, .slice sAt 3 sct] 32, .row (.slice gAt 3 gct) 3 (([⟨0, 1⟩, ⟨0, 300⟩, ⟨1, 65536⟩] : List Gr).flatMap grL) 40 2, .row (.slice lAt 3 lct) 3 (([1, 281474976710656, 0] : List Int).map I64i) 3 1, .row (.slice uAt 3 uct) 3 (([0, 300, 0] : List Int).map I64i) 3 1, .row (vS gtAt 3 tct) 3 (([⟨7, 2, 5, 0, 7, false, 18446744073709551615, 0⟩, ⟨300, 1, 65536, 1, 2, true, 128, 65535⟩, ⟨65535, 0, 1, 2, 4, false, 0, 0⟩] : List Tk).flatMap tkL) 46 8, .row (.slice sAt 3 sct) 3 (([⟨A0t, c0t, [a0, b0, d0]⟩, ⟨A1t, c1t, [a1, b1, d1]⟩, ⟨A2t, c2t, [a2, b2, d2]⟩] : List Rw).map Rw.val) 44 1, .row (.slice A0t 3 c0t) 3 (([a0, b0, d0] : List Sp).flatMap spL) 43 3, .row (.slice A1t 3 c1t) 3 (([a1, b1, d1] : List Sp).flatMap spL) 43 3, .row (.slice A2t 3 c2t) 3 (([a2, b2, d2] : List Sp).flatMap spL) 43 3, .blk g4 #[vI 281474976710656, vI 3, vQ 99, vS g11 3 3, vS g13 3 3, vS g14 3 3, vS g19 3 3, .slice As 3 cs] 32, .blk g1 #[vI 3, vQ 99, vS g11 3 3, vS g13 3 3, vS g14 3 3, vS g19 3 3, .slice As 3 cs] 30, .row (.slice As 3 cs) 3 (([⟨P0, k0, [a0, b0, d0]⟩, ⟨P1, k1, [a1, b1, d1]⟩, ⟨P2, k2, [a2, b2, d2]⟩] : List Rw).map Rw.val) 44 1, .blk g19 #[vI 7, vI 2, vI 5, vI 0, vQ 7, .bool false, vQ 18446744073709551615, vW 0, vI 300, vI 1, vI 65536, vI 1, vQ 2, .bool true, vQ 128, vW 65535, vI 65535, vI 0, vI 1, vI 2, vQ 4, .bool false, vQ 0, vW 0] 46, .blk g14 #[vI 0, vI 300, vI 0] 3, .blk g13 #[vI 1, vI 281474976710656, vI 0] 3, .blk g11 #[vI 0, vI 1, vI 0, vI 300, vI 1, vI 65536] 40, .row (.slice P0 3 k0) 3 (([a0, b0, d0] : List Sp).flatMap spL) 43 3, .row (.slice P1 3 k1) 3 (([a1, b1, d1] : List Sp).flatMap spL) 43 3, .row (.slice P2 3 k2) 3 (([a2, b2, d2] : List Sp).flatMap spL) 43 3] [0, 1, 2, 3, 4, 5, 6, 7, 8, 9, 10, 11, 12, 13, 14, 15, 16, 17, 18] [15] fun HM HS => ?_
   refine ap HF (fun _ => HS) [0, 1, 3, 4, 6, 7, 9, 10] #[true, true, false, true, true, false, true, true, false, true, true, false, false, false, false, false] [(96, vI 1), (93, vP g6 6), (90, vI 0), (89, vI 0), (87, vP g6 6)] fun a HF => ?_
   refine ay HF HS 2 rfl rfl rfl (v := vS gtAt 3 tct) (Yl.qf rfl rfl (by kernel_rfl) (fun _ h => h.cell (i := 0) rfl rfl)) fun a HF => ?_
   refine ay HF HS 5 rfl rfl rfl (v := vS gtAt 0 0) (Yl.qk7 ei_tk (j := 0) (q := 0) rfl rfl rfl rfl (by omega) (by omega)) fun a HF => ?_
   refine ay HF HS 8 rfl rfl rfl (v := vS gtAt 3 tct) (Yl.qf rfl rfl (by kernel_rfl) (fun _ h => h.cell (i := 0) rfl rfl)) fun a HF => ?_
   refine ay HF HS 11 rfl rfl rfl (v := .slice (if tct = 1 then some ⟨gtAt, 0, none⟩ else (some ⟨gtAt, 0, none⟩ : Option Addr).map (·.add (1 * 8))) (3 - 1) (tct - 1)) (Yl.sliceFrom ei_tk (j := 1) rfl rfl rfl (by omega)) fun a HF => ?_
   refine qm [12] (by kernel_rfl) rfl ?_
   refine all_cons ?_ all_nil
   refine qk HF (i := 12) rfl rfl ?_
   refine zx HF HM (xs := ([] : List Tk).flatMap tkL) (news := ([⟨300, 1, 65536, 1, 2, true, 128, 65535⟩, ⟨65535, 0, 1, 2, 4, false, 0, 0⟩] : List Tk).flatMap tkL) rfl ei_tk rfl rfl ((HM.rd (i := 4) rfl).qs2 zf (l := [⟨7, 2, 5, 0, 7, false, 18446744073709551615, 0⟩, ⟨300, 1, 65536, 1, 2, true, 128, 65535⟩, ⟨65535, 0, 1, 2, 4, false, 0, 0⟩]) (k := 0) (Nat.le_of_ble_eq_true rfl)) ((HM.rd (i := 4) rfl).qva zf (l := [⟨7, 2, 5, 0, 7, false, 18446744073709551615, 0⟩, ⟨300, 1, 65536, 1, 2, true, 128, 65535⟩, ⟨65535, 0, 1, 2, 4, false, 0, 0⟩]) (k := 1) (Nat.le_of_ble_eq_true rfl) htct) (by omega) (by omega) (fun _ => ⟨rfl, rfl⟩) (by omega) (by omega) rfl (by decide) ?_
   clear HF HM; intro a w98 g98 c98 HF HM hc98
   refine keepS (HM.picks [1, 2, 3, 4, 5, 6, 7, 8, 9, 10, 11, 12, 13, 14, 15, 16, 17, 18, 19] (by decide) rfl) (fun HS => ?_)
   refine ap HF (fun _ => HS) [13, 14] #[true, true, true, true, true, true, true, true, true, true, true, true, true, true, true, false] [(100, vP g6 6)] fun a HF => ?_
   refine qm [15] (by kernel_rfl) rfl ?_
   refine all_cons ?_ all_nil
   refine qk HF (i := 15) rfl rfl ?_
   refine q4 HF HM (i := 1) rfl rfl rfl rfl (by kernel_rfl) rfl rfl (by simp) ?_
   clear HM; intro w22_15 HM
   refine noS (by kernel_rfl) ?_
   refine qq (by kernel_rfl) ?_
   have hnsomeg980none : 0 + (3 - 1) = 2 := rfl
   replace HM := HM.reRow (i := 0) (ys := ([⟨300, 1, 65536, 1, 2, true, 128, 65535⟩, ⟨65535, 0, 1, 2, 4, false, 0, 0⟩] : List Tk).flatMap tkL) rfl hnsomeg980none (by kernel_rfl)
   rw [hnsomeg980none] at hc98
   replace HF := HF.as (t := 98) (u := vS g98 2 c98) rfl (by rw [hnsomeg980none])
   rw [hnsomeg980none] at HM
   replace HM : Mem w _ [.row (vS g98 2 c98) 2 (([⟨300, 1, 65536, 1, 2, true, 128, 65535⟩, ⟨65535, 0, 1, 2, 4, false, 0, 0⟩] : List Tk).flatMap tkL) 46 8, .blk g6 #[vI 1, vI 3, vQ 99, .slice gAt 3 gct, .slice lAt 3 lct, .slice uAt 3 uct, vS g98 2 c98, .slice sAt 3 sct] 32, .row (.slice gAt 3 gct) 3 (([⟨0, 1⟩, ⟨0, 300⟩, ⟨1, 65536⟩] : List Gr).flatMap grL) 40 2, .row (.slice lAt 3 lct) 3 (([1, 281474976710656, 0] : List Int).map I64i) 3 1, .row (.slice uAt 3 uct) 3 (([0, 300, 0] : List Int).map I64i) 3 1, .row (vS gtAt 3 tct) 3 (([⟨7, 2, 5, 0, 7, false, 18446744073709551615, 0⟩, ⟨300, 1, 65536, 1, 2, true, 128, 65535⟩, ⟨65535, 0, 1, 2, 4, false, 0, 0⟩] : List Tk).flatMap tkL) 46 8, .row (.slice sAt 3 sct) 3 (([⟨A0t, c0t, [a0, b0, d0]⟩, ⟨A1t, c1t, [a1, b1, d1]⟩, ⟨A2t, c2t, [a2, b2, d2]⟩] : List Rw).map Rw.val) 44 1, .row (.slice A0t 3 c0t) 3 (([a0, b0, d0] : List Sp).flatMap spL) 43 3, .row (.slice A1t 3 c1t) 3 (([a1, b1, d1] : List Sp).flatMap spL) 43 3, .row (.slice A2t 3 c2t) 3 (([a2, b2, d2] : List Sp).flatMap spL) 43 3, .blk g4 #[vI 281474976710656, vI 3, vQ 99, vS g11 3 3, vS g13 3 3, vS g14 3 3, vS g19 3 3, .slice As 3 cs] 32, .blk g1 #[vI 3, vQ 99, vS g11 3 3, vS g13 3 3, vS g14 3 3, vS g19 3 3, .slice As 3 cs] 30, .row (.slice As 3 cs) 3 (([⟨P0, k0, [a0, b0, d0]⟩, ⟨P1, k1, [a1, b1, d1]⟩, ⟨P2, k2, [a2, b2, d2]⟩] : List Rw).map Rw.val) 44 1, .blk g19 #[vI 7, vI 2, vI 5, vI 0, vQ 7, .bool false, vQ 18446744073709551615, vW 0, vI 300, vI 1, vI 65536, vI 1, vQ 2, .bool true, vQ 128, vW 65535, vI 65535, vI 0, vI 1, vI 2, vQ 4, .bool false, vQ 0, vW 0] 46, .blk g14 #[vI 0, vI 300, vI 0] 3, .blk g13 #[vI 1, vI 281474976710656, vI 0] 3, .blk g11 #[vI 0, vI 1, vI 0, vI 300, vI 1, vI 65536] 40, .row (.slice P0 3 k0) 3 (([a0, b0, d0] : List Sp).flatMap spL) 43 3, .row (.slice P1 3 k1) 3 (([a1, b1, d1] : List Sp).flatMap spL) 43 3, .row (.slice P2 3 k2) 3 (([a2, b2, d2] : List Sp).flatMap spL) 43 3] := HM
   refine wp_seq (qa ?_)
   refine fy HF HM 0 rfl rfl rfl (v := .agg #[vI 3, vQ 99, vS g11 3 3, vS g13 3 3, vS g14 3 3, vS g19 3 3, .slice As 3 cs]) (Yl.qr rfl rfl si_st rfl (fun _ h => qe (h.blk (i := 11) rfl))) fun a HF => ?_
   refine fo HF 1 rfl rfl ?_
   refine e_cl HF [.agg #[vI 3, vQ 99, vS g11 3 3, vS g13 3 3, vS g14 3 3, vS g19 3 3, .slice As 3 cs]] rfl rfl (qbw (x := (⟨0, ⟨3, 99, some ⟨g11, 0, none⟩, 3, [⟨0, 1⟩, ⟨0, 300⟩, ⟨1, 65536⟩], some ⟨g13, 0, none⟩, 3, [1, 281474976710656, 0], some ⟨g14, 0, none⟩, 3, [0, 300, 0], some ⟨g19, 0, none⟩, 3, [⟨7, 2, 5, 0, 7, false, 18446744073709551615, 0⟩, ⟨300, 1, 65536, 1, 2, true, 128, 65535⟩, ⟨65535, 0, 1, 2, 4, false, 0, 0⟩], As, cs, [⟨P0, k0, [a0, b0, d0]⟩, ⟨P1, k1, [a1, b1, d1]⟩, ⟨P2, k2, [a2, b2, d2]⟩]⟩⟩ : Snm).st) rfl _ ⟨(HM.rdBlk (i := 16) (n := 3) (size := 2) rfl rfl), (HM.rdBlk (i := 15) (n := 3) (size := 1) rfl rfl), (HM.rdBlk (i := 14) (n := 3) (size := 1) rfl rfl), (HM.rdBlk (i := 13) (n := 3) (size := 8) rfl rfl), (HM.rd (i := 12) rfl), qj (HM.rd (i := 17) rfl) (HM.rd (i := 18) rfl) (HM.rd (i := 19) rfl)⟩ ⟨Nat.le_of_ble_eq_true rfl, Nat.le_of_ble_eq_true rfl, Nat.le_of_ble_eq_true rfl, Nat.le_of_ble_eq_true rfl, Nat.le_of_ble_eq_true rfl, qj (Nat.le_of_ble_eq_true rfl) (Nat.le_of_ble_eq_true rfl) (Nat.le_of_ble_eq_true rfl)⟩) ?_
   rintro _ w102 ⟨gAu, lAu, uAu, tAu, sAu, A0u, A1u, A2u, gcu, lcu, ucu, tcu, scu, c0u, c1u, c2u, rfl, hgcu, hlcu, hucu, htcu, hscu, hc0u, hc1u, hc2u, hm⟩
   refine ⟨_, rfl, ?_⟩
   replace HM := (show Mem w _ [.row (.slice gAu 3 gcu) 3 (([⟨0, 1⟩, ⟨0, 300⟩, ⟨1, 65536⟩] : List Gr).flatMap grL) 40 2, .row (.slice lAu 3 lcu) 3 (([1, 281474976710656, 0] : List Int).map I64i) 3 1, .row (.slice uAu 3 ucu) 3 (([0, 300, 0] : List Int).map I64i) 3 1, .row (.slice tAu 3 tcu) 3 (([⟨7, 2, 5, 0, 7, false, 18446744073709551615, 0⟩, ⟨300, 1, 65536, 1, 2, true, 128, 65535⟩, ⟨65535, 0, 1, 2, 4, false, 0, 0⟩] : List Tk).flatMap tkL) 46 8, .row (.slice sAu 3 scu) 3 (([⟨A0u, c0u, [a0, b0, d0]⟩, ⟨A1u, c1u, [a1, b1, d1]⟩, ⟨A2u, c2u, [a2, b2, d2]⟩] : List Rw).map Rw.val) 44 1, .row (.slice A0u 3 c0u) 3 (([a0, b0, d0] : List Sp).flatMap spL) 43 3, .row (.slice A1u 3 c1u) 3 (([a1, b1, d1] : List Sp).flatMap spL) 43 3, .row (.slice A2u 3 c2u) 3 (([a2, b2, d2] : List Sp).flatMap spL) 43 3, .row (vS g98 2 c98) 2 (([⟨300, 1, 65536, 1, 2, true, 128, 65535⟩, ⟨65535, 0, 1, 2, 4, false, 0, 0⟩] : List Tk).flatMap tkL) 46 8, .blk g6 #[vI 1, vI 3, vQ 99, .slice gAt 3 gct, .slice lAt 3 lct, .slice uAt 3 uct, vS g98 2 c98, .slice sAt 3 sct] 32, .row (.slice gAt 3 gct) 3 (([⟨0, 1⟩, ⟨0, 300⟩, ⟨1, 65536⟩] : List Gr).flatMap grL) 40 2, .row (.slice lAt 3 lct) 3 (([1, 281474976710656, 0] : List Int).map I64i) 3 1, .row (.slice uAt 3 uct) 3 (([0, 300, 0] : List Int).map I64i) 3 1, .row (vS gtAt 3 tct) 3 (([⟨7, 2, 5, 0, 7, false, 18446744073709551615, 0⟩, ⟨300, 1, 65536, 1, 2, true, 128, 65535⟩, ⟨65535, 0, 1, 2, 4, false, 0, 0⟩] : List Tk).flatMap tkL) 46 8, .row (.slice sAt 3 sct) 3 (([⟨A0t, c0t, [a0, b0, d0]⟩, ⟨A1t, c1t, [a1, b1, d1]⟩, ⟨A2t, c2t, [a2, b2, d2]⟩] : List Rw).map Rw.val) 44 1, .row (.slice A0t 3 c0t) 3 (([a0, b0, d0] : List Sp).flatMap spL) 43 3, .row (.slice A1t 3 c1t) 3 (([a1, b1, d1] : List Sp).flatMap spL) 43 3, .row (.slice A2t 3 c2t) 3 (([a2, b2, d2] : List Sp).flatMap spL) 43 3, .blk g4 #[vI 281474976710656, vI 3, vQ 99, vS g11 3 3, vS g13 3 3, vS g14 3 3, vS g19 3 3, .slice As 3 cs] 32, .blk g1 #[vI 3, vQ 99, vS g11 3 3, vS g13 3 3, vS g14 3 3, vS g19 3 3, .slice As 3 cs] 30, .row (.slice As 3 cs) 3 (([⟨P0, k0, [a0, b0, d0]⟩, ⟨P1, k1, [a1, b1, d1]⟩, ⟨P2, k2, [a2, b2, d2]⟩] : List Rw).map Rw.val) 44 1, .blk g19 #[vI 7, vI 2, vI 5, vI 0, vQ 7, .bool false, vQ 18446744073709551615, vW 0, vI 300, vI 1, vI 65536, vI 1, vQ 2, .bool true, vQ 128, vW 65535, vI 65535, vI 0, vI 1, vI 2, vQ 4, .bool false, vQ 0, vW 0] 46, .blk g14 #[vI 0, vI 300, vI 0] 3, .blk g13 #[vI 1, vI 281474976710656, vI 0] 3, .blk g11 #[vI 0, vI 1, vI 0, vI 300, vI 1, vI 65536] 40, .row (.slice P0 3 k0) 3 (([a0, b0, d0] : List Sp).flatMap spL) 43 3, .row (.slice P1 3 k1) 3 (([a1, b1, d1] : List Sp).flatMap spL) 43 3, .row (.slice P2 3 k2) 3 (([a2, b2, d2] : List Sp).flatMap spL) 43 3] from HM.join hm)
   clear HF; intro a HF
   replace hgcu : 3 ≤ gcu := hgcu
   replace hlcu : 3 ≤ lcu := hlcu
   replace hucu : 3 ≤ ucu := hucu
   replace htcu : 3 ≤ tcu := htcu
   replace hscu : 3 ≤ scu := hscu
   replace hc0u : 3 ≤ c0u := hc0u
   replace hc1u : 3 ≤ c1u := hc1u
   replace hc2u : 3 ≤ c2u := hc2u
   refine fy HF HM 2 rfl rfl rfl (v := .agg #[vI 1, vI 3, vQ 99, .slice gAu 3 gcu, .slice lAu 3 lcu, .slice uAu 3 ucu, .slice tAu 3 tcu, .slice sAu 3 scu]) (Yl.build (vs := [(0, vI 1), (1, .agg #[vI 3, vQ 99, .slice gAu 3 gcu, .slice lAu 3 lcu, .slice uAu 3 ucu, .slice tAu 3 tcu, .slice sAu 3 scu])]) rfl (by kernel_rfl) (by kernel_rfl)) fun a HF => ?_
   refine fo HF 3 rfl rfl ?_
   refine qs HF HM (cs := #[vI 0, vI 0, vQ 0, .slice none 0 0, .slice none 0 0, .slice none 0 0, .slice none 0 0, .slice none 0 0]) rfl (by kernel_rfl) rfl (by decide) ?_
   clear HF HM; intro a w7 g7 HF HM
   refine fo HF 4 rfl rfl ?_
   refine e_sa HF HM 0 rfl rfl rfl rfl rfl qx rfl rfl (by simp [Value.oneCell']) ?_
   clear HM; intro w23_4 HM
   refine qb rfl (wp_seq (qa ?_))
   refine fp HF 2 0 [(105, vP g7 6)] fun a HF => ?_
   refine fy HF HM 2 rfl rfl rfl (v := .slice tAu 3 tcu) (Yl.qf rfl rfl (by kernel_rfl) (fun _ h => h.cell (i := 0) rfl rfl)) fun a HF => ?_
   refine fp HF 3 3 [(109, vI 2), (107, vI 0)] fun a HF => ?_
   obtain ⟨gtAu, rfl⟩ := zh (HM.own (i := 4) rfl) (Nat.lt_of_le_of_lt (Nat.zero_le _) (show 0 < 3 from by decide))
   refine fy HF HM 6 rfl rfl rfl (v := vP gtAu 0) (Yl.indexAddr (ad := ⟨gtAu, 0, none⟩) (y := 0) (sz := 8) rfl rfl rfl (by decide) (by kernel_rfl)) fun a HF => ?_
   refine fp HF 1 7 [(111, vP gtAu 1)] fun a HF => ?_
   refine fo HF 8 rfl rfl ?_
   refine zu HF HM (i := 4) rfl rfl rfl rfl (by kernel_rfl) rfl rfl (Nat.le_of_ble_eq_true rfl) ?_
   clear HM; intro w24_8 HM
   replace HM := HM.asRow (i := 4) (ys := ([⟨7, 2, 5, 0, 7, false, 18446744073709551615, 0⟩, ⟨300, 1, 65536, 1, 2, true, 128, 65535⟩, ⟨65535, 0, 1, 2, 4, false, 0, 0⟩] : List Tk).flatMap tkL) rfl (rfl)
   refine qb rfl (wp_seq (qa ?_))
   refine fp HF 2 0 [(113, vP g7 7)] fun a HF => ?_
   refine fy HF HM 2 rfl rfl rfl (v := .slice sAu 3 scu) (Yl.qf rfl rfl (by kernel_rfl) (fun _ h => h.cell (i := 0) rfl rfl)) fun a HF => ?_
   obtain ⟨gsAu, rfl⟩ := zh (HM.own (i := 5) rfl) (Nat.lt_of_le_of_lt (Nat.zero_le _) (show 2 < 3 from by omega))
   refine fy HF HM 3 rfl rfl rfl (v := vP gsAu 2) (Yl.indexAddr (ad := ⟨gsAu, 0, none⟩) (y := 2) (sz := 1) rfl rfl rfl (by omega) (by kernel_rfl)) fun a HF => ?_
   refine fy HF HM 4 rfl rfl rfl (v := .slice ((⟨A2u, c2u, [a2, b2, d2]⟩ : Rw).A) ((⟨A2u, c2u, [a2, b2, d2]⟩ : Rw).l.length) ((⟨A2u, c2u, [a2, b2, d2]⟩ : Rw).c)) (Yl.qf rfl rfl (by kernel_rfl) (fun _ h => h.qad (i := 5) rfl (k := 2) (qz (F := Rw.val) (k := 2) (x := (⟨A2u, c2u, [a2, b2, d2]⟩ : Rw)) (show ([⟨A0u, c0u, [a0, b0, d0]⟩, ⟨A1u, c1u, [a1, b1, d1]⟩, ⟨A2u, c2u, [a2, b2, d2]⟩] : List Rw)[2]? = some _ from rfl)))) fun a HF => ?_
   replace HF := HF.sp 116 (.slice A2u 3 c2u) rfl (rfl)
   refine fp HF 1 5 [(117, vI 0)] fun a HF => ?_
   obtain ⟨gA2u, rfl⟩ := zh (HM.own (i := 8) rfl) (Nat.lt_of_le_of_lt (Nat.zero_le _) (show 0 < 3 from by decide))
   refine fy HF HM 6 rfl rfl rfl (v := vP gA2u 0) (Yl.indexAddr (ad := ⟨gA2u, 0, none⟩) (y := 0) (sz := 3) rfl rfl rfl (by decide) (by kernel_rfl)) fun a HF => ?_
   refine fp HF 1 7 [(119, vP gA2u 2)] fun a HF => ?_
   refine fo HF 8 rfl rfl ?_
   refine zu HF HM (i := 8) rfl rfl rfl rfl (by kernel_rfl) rfl rfl (Nat.le_of_ble_eq_true rfl) ?_
   clear HM; intro w25_8 HM
   replace HM := HM.asRow (i := 8) (ys := ([⟨a2.v, a2.r, 0⟩, b2, d2] : List Sp).flatMap spL) rfl (rfl)
   refine qb rfl (wp_seq (qa ?_))
   refine fy HF HM 0 rfl rfl rfl (v := .agg #[vI 1, vI 3, vQ 99, .slice gAt 3 gct, .slice lAt 3 lct, .slice uAt 3 uct, vS g98 2 c98, .slice sAt 3 sct]) (Yl.qr rfl rfl qx rfl (fun _ h => qe (h.blk (i := 10) rfl))) fun a HF => ?_
   refine fy HF HM 1 rfl rfl rfl (v := .agg #[vI 281474976710656, vI 3, vQ 99, vS g11 3 3, vS g13 3 3, vS g14 3 3, vS g19 3 3, .slice As 3 cs]) (Yl.qr rfl rfl qx rfl (fun _ h => qe (h.blk (i := 19) rfl))) fun a HF => ?_
   refine fo HF 2 rfl rfl ?_
   refine e_is HF HM [.agg #[vI 1, vI 3, vQ 99, .slice gAt 3 gct, .slice lAt 3 lct, .slice uAt 3 uct, vS g98 2 c98, .slice sAt 3 sct], .agg #[vI 281474976710656, vI 3, vQ 99, vS g11 3 3, vS g13 3 3, vS g14 3 3, vS g19 3 3, .slice As 3 cs]] (.bool true) rfl rfl (z3 (⟨1, ⟨3, 99, gAt, gct, [⟨0, 1⟩, ⟨0, 300⟩, ⟨1, 65536⟩], lAt, lct, [1, 281474976710656, 0], uAt, uct, [0, 300, 0], some ⟨g98, 0, none⟩, c98, [⟨300, 1, 65536, 1, 2, true, 128, 65535⟩, ⟨65535, 0, 1, 2, 4, false, 0, 0⟩], sAt, sct, [⟨A0t, c0t, [a0, b0, d0]⟩, ⟨A1t, c1t, [a1, b1, d1]⟩, ⟨A2t, c2t, [a2, b2, d2]⟩]⟩⟩ : Snm) (⟨281474976710656, ⟨3, 99, some ⟨g11, 0, none⟩, 3, [⟨0, 1⟩, ⟨0, 300⟩, ⟨1, 65536⟩], some ⟨g13, 0, none⟩, 3, [1, 281474976710656, 0], some ⟨g14, 0, none⟩, 3, [0, 300, 0], some ⟨g19, 0, none⟩, 3, [⟨7, 2, 5, 0, 7, false, 18446744073709551615, 0⟩, ⟨300, 1, 65536, 1, 2, true, 128, 65535⟩, ⟨65535, 0, 1, 2, 4, false, 0, 0⟩], As, cs, [⟨P0, k0, [a0, b0, d0]⟩, ⟨P1, k1, [a1, b1, d1]⟩, ⟨P2, k2, [a2, b2, d2]⟩]⟩⟩ : Snm) ⟨(show I64 3 from (show I64 (3) by unfold I64; decide)), (show 99 < 18446744073709551616 from (show 99 < 18446744073709551616 by decide)), qj ⟨(show I64 (0) by unfold I64; decide), (show I64 (1) by unfold I64; decide)⟩ ⟨(show I64 (0) by unfold I64; decide), (show I64 (300) by unfold I64; decide)⟩ ⟨(show I64 (1) by unfold I64; decide), (show I64 (65536) by unfold I64; decide)⟩, qj (show I64 (1) by unfold I64; decide) (show I64 (281474976710656) by unfold I64; decide) (show I64 (0) by unfold I64; decide), qj (show I64 (0) by unfold I64; decide) (show I64 (300) by unfold I64; decide) (show I64 (0) by unfold I64; decide), qac ⟨(show I64 (300) by unfold I64; decide), (show I64 (1) by unfold I64; decide), (show I64 (65536) by unfold I64; decide), (show I64 (1) by unfold I64; decide), (show 2 < 18446744073709551616 by decide), (show 128 < 18446744073709551616 by decide), (show 65535 < 4294967296 by decide)⟩ ⟨(show I64 (65535) by unfold I64; decide), (show I64 (0) by unfold I64; decide), (show I64 (1) by unfold I64; decide), (show I64 (2) by unfold I64; decide), (show 4 < 18446744073709551616 by decide), (show 0 < 18446744073709551616 by decide), (show 0 < 4294967296 by decide)⟩, qj (qj ha0 hb0 hd0) (qj ha1 hb1 hd1) (qj ha2 hb2 hd2)⟩ ⟨Nat.le_of_ble_eq_true rfl, Nat.le_of_ble_eq_true rfl, Nat.le_of_ble_eq_true rfl, Nat.le_of_ble_eq_true rfl, Nat.le_of_ble_eq_true rfl, qj (Nat.le_of_ble_eq_true rfl) (Nat.le_of_ble_eq_true rfl) (Nat.le_of_ble_eq_true rfl)⟩ ⟨hgct, hlct, huct, hc98, hsct, qj hc0t hc1t hc2t⟩ ⟨Nat.le_of_ble_eq_true rfl, Nat.le_of_ble_eq_true rfl, Nat.le_of_ble_eq_true rfl, Nat.le_of_ble_eq_true rfl, Nat.le_of_ble_eq_true rfl, qj (Nat.le_of_ble_eq_true rfl) (Nat.le_of_ble_eq_true rfl) (Nat.le_of_ble_eq_true rfl)⟩ B _ (hL.mem HM hB) (HM.le hB) ⟨(HM.rd (i := 11) rfl), (HM.rd (i := 12) rfl), (HM.rd (i := 13) rfl), (HM.rd (i := 9) rfl), (HM.rd (i := 15) rfl), qj (HM.rd (i := 16) rfl) (HM.rd (i := 17) rfl) (HM.rd (i := 18) rfl)⟩ ⟨(HM.rdBlk (i := 25) (n := 3) (size := 2) rfl rfl), (HM.rdBlk (i := 24) (n := 3) (size := 1) rfl rfl), (HM.rdBlk (i := 23) (n := 3) (size := 1) rfl rfl), (HM.rdBlk (i := 22) (n := 3) (size := 8) rfl rfl), (HM.rd (i := 21) rfl), qj (HM.rd (i := 26) rfl) (HM.rd (i := 27) rfl) (HM.rd (i := 28) rfl)⟩) fun w122 hbw HM a HF => ?_
   refine fp HF 2 3 [(124, .bool false)] fun a HF => ?_
   refine fy HF HM 5 rfl rfl rfl (v := .agg #[vI 1, vI 3, vQ 99, .slice gAu 3 gcu, .slice lAu 3 lcu, .slice uAu 3 ucu, vS gtAu 3 tcu, vS gsAu 3 scu]) (Yl.qr rfl rfl qx rfl (fun _ h => qe (h.blk (i := 0) rfl))) fun a HF => ?_
   refine fy HF HM 6 rfl rfl rfl (v := .agg #[vI 1, vI 3, vQ 99, .slice gAt 3 gct, .slice lAt 3 lct, .slice uAt 3 uct, vS g98 2 c98, .slice sAt 3 sct]) (Yl.qr rfl rfl qx rfl (fun _ h => qe (h.blk (i := 10) rfl))) fun a HF => ?_
   refine fo HF 7 rfl rfl ?_
   refine e_is HF HM [.agg #[vI 1, vI 3, vQ 99, .slice gAu 3 gcu, .slice lAu 3 lcu, .slice uAu 3 ucu, vS gtAu 3 tcu, vS gsAu 3 scu], .agg #[vI 1, vI 3, vQ 99, .slice gAt 3 gct, .slice lAt 3 lct, .slice uAt 3 uct, vS g98 2 c98, .slice sAt 3 sct]] (.bool true) rfl rfl (z3 (⟨1, ⟨3, 99, gAu, gcu, [⟨0, 1⟩, ⟨0, 300⟩, ⟨1, 65536⟩], lAu, lcu, [1, 281474976710656, 0], uAu, ucu, [0, 300, 0], some ⟨gtAu, 0, none⟩, tcu, [⟨7, 2, 5, 0, 7, false, 18446744073709551615, 0⟩, ⟨300, 1, 65536, 1, 2, true, 128, 65535⟩, ⟨65535, 0, 1, 2, 4, false, 0, 0⟩], some ⟨gsAu, 0, none⟩, scu, [⟨A0u, c0u, [a0, b0, d0]⟩, ⟨A1u, c1u, [a1, b1, d1]⟩, ⟨some ⟨gA2u, 0, none⟩, c2u, [⟨a2.v, a2.r, 0⟩, b2, d2]⟩]⟩⟩ : Snm) (⟨1, ⟨3, 99, gAt, gct, [⟨0, 1⟩, ⟨0, 300⟩, ⟨1, 65536⟩], lAt, lct, [1, 281474976710656, 0], uAt, uct, [0, 300, 0], some ⟨g98, 0, none⟩, c98, [⟨300, 1, 65536, 1, 2, true, 128, 65535⟩, ⟨65535, 0, 1, 2, 4, false, 0, 0⟩], sAt, sct, [⟨A0t, c0t, [a0, b0, d0]⟩, ⟨A1t, c1t, [a1, b1, d1]⟩, ⟨A2t, c2t, [a2, b2, d2]⟩]⟩⟩ : Snm) ⟨(show I64 3 from (show I64 (3) by unfold I64; decide)), (show 99 < 18446744073709551616 from (show 99 < 18446744073709551616 by decide)), qj ⟨(show I64 (0) by unfold I64; decide), (show I64 (1) by unfold I64; decide)⟩ ⟨(show I64 (0) by unfold I64; decide), (show I64 (300) by unfold I64; decide)⟩ ⟨(show I64 (1) by unfold I64; decide), (show I64 (65536) by unfold I64; decide)⟩, qj (show I64 (1) by unfold I64; decide) (show I64 (281474976710656) by unfold I64; decide) (show I64 (0) by unfold I64; decide), qj (show I64 (0) by unfold I64; decide) (show I64 (300) by unfold I64; decide) (show I64 (0) by unfold I64; decide), qj ⟨(show I64 (7) by unfold I64; decide), (show I64 (2) by unfold I64; decide), (show I64 (5) by unfold I64; decide), (show I64 (0) by unfold I64; decide), (show 7 < 18446744073709551616 by decide), (show 18446744073709551615 < 18446744073709551616 by decide), (show 0 < 4294967296 by decide)⟩ ⟨(show I64 (300) by unfold I64; decide), (show I64 (1) by unfold I64; decide), (show I64 (65536) by unfold I64; decide), (show I64 (1) by unfold I64; decide), (show 2 < 18446744073709551616 by decide), (show 128 < 18446744073709551616 by decide), (show 65535 < 4294967296 by decide)⟩ ⟨(show I64 (65535) by unfold I64; decide), (show I64 (0) by unfold I64; decide), (show I64 (1) by unfold I64; decide), (show I64 (2) by unfold I64; decide), (show 4 < 18446744073709551616 by decide), (show 0 < 18446744073709551616 by decide), (show 0 < 4294967296 by decide)⟩, qj (qj ha0 hb0 hd0) (qj ha1 hb1 hd1) (qj (qeg ha2) hb2 hd2)⟩ ⟨Nat.le_of_ble_eq_true rfl, Nat.le_of_ble_eq_true rfl, Nat.le_of_ble_eq_true rfl, Nat.le_of_ble_eq_true rfl, Nat.le_of_ble_eq_true rfl, qj (Nat.le_of_ble_eq_true rfl) (Nat.le_of_ble_eq_true rfl) (Nat.le_of_ble_eq_true rfl)⟩ ⟨hgcu, hlcu, hucu, htcu, hscu, qj hc0u hc1u hc2u⟩ ⟨Nat.le_of_ble_eq_true rfl, Nat.le_of_ble_eq_true rfl, Nat.le_of_ble_eq_true rfl, Nat.le_of_ble_eq_true rfl, Nat.le_of_ble_eq_true rfl, qj (Nat.le_of_ble_eq_true rfl) (Nat.le_of_ble_eq_true rfl) (Nat.le_of_ble_eq_true rfl)⟩ B _ (hL.mem HM hB) (HM.le hB) ⟨(HM.rd (i := 1) rfl), (HM.rd (i := 2) rfl), (HM.rd (i := 3) rfl), (HM.rd (i := 4) rfl), (HM.rd (i := 5) rfl), qj (HM.rd (i := 6) rfl) (HM.rd (i := 7) rfl) (HM.rd (i := 8) rfl)⟩ ⟨(HM.rd (i := 11) rfl), (HM.rd (i := 12) rfl), (HM.rd (i := 13) rfl), (HM.rd (i := 9) rfl), (HM.rd (i := 15) rfl), qj (HM.rd (i := 16) rfl) (HM.rd (i := 17) rfl) (HM.rd (i := 18) rfl)⟩) fun w127 hbw HM a HF => ?_
   refine fp HF 2 8 [(129, .bool false)] fun a HF => ?_
   refine qb rfl (qc HF rfl (wp_skip (qa ?_)))
   refine fp HF 2 0 [(80, vI 1)] fun a HF => ?_
   refine qb rfl ?_
   replace HF := HF.to [(80, vI 1), (129, .bool false), (7, vP g7 0), (98, vS g98 2 c98), (6, vP g6 0), (5, vI 0), (81, .bool true), (79, vI 3), (4, vP g4 0), (1, vP g1 0)]
   exact ⟨_, (by omega), 1, by omega, rfl, HF.sub (by kernel_rfl), HM.picks [19, 20, 21, 22, 23, 24, 25, 26, 27, 28] (by decide) rfl⟩
  ·
   replace HF := HF.as (t := 80) (u := vI 1) rfl rfl
   refine qd HF rfl (wp_skip (wp_seq (wp_block (wp_seq (qa ?_)))))
   refine fp HF 2 0 [(5, vI 1)] fun a HF => ?_
   refine qb rfl (wp_seq (qa ?_))
   refine fy HF HM 0 rfl rfl rfl (v := .agg #[vI 3, vQ 99, vS g11 3 3, vS g13 3 3, vS g14 3 3, vS g19 3 3, .slice As 3 cs]) (Yl.qr rfl rfl si_st rfl (fun _ h => qe (h.blk (i := 1) rfl))) fun a HF => ?_
   refine fo HF 1 rfl rfl ?_
   refine e_cl HF [.agg #[vI 3, vQ 99, vS g11 3 3, vS g13 3 3, vS g14 3 3, vS g19 3 3, .slice As 3 cs]] rfl rfl (qbw (x := (⟨0, ⟨3, 99, some ⟨g11, 0, none⟩, 3, [⟨0, 1⟩, ⟨0, 300⟩, ⟨1, 65536⟩], some ⟨g13, 0, none⟩, 3, [1, 281474976710656, 0], some ⟨g14, 0, none⟩, 3, [0, 300, 0], some ⟨g19, 0, none⟩, 3, [⟨7, 2, 5, 0, 7, false, 18446744073709551615, 0⟩, ⟨300, 1, 65536, 1, 2, true, 128, 65535⟩, ⟨65535, 0, 1, 2, 4, false, 0, 0⟩], As, cs, [⟨P0, k0, [a0, b0, d0]⟩, ⟨P1, k1, [a1, b1, d1]⟩, ⟨P2, k2, [a2, b2, d2]⟩]⟩⟩ : Snm).st) rfl _ ⟨(HM.rdBlk (i := 6) (n := 3) (size := 2) rfl rfl), (HM.rdBlk (i := 5) (n := 3) (size := 1) rfl rfl), (HM.rdBlk (i := 4) (n := 3) (size := 1) rfl rfl), (HM.rdBlk (i := 3) (n := 3) (size := 8) rfl rfl), (HM.rd (i := 2) rfl), qj (HM.rd (i := 7) rfl) (HM.rd (i := 8) rfl) (HM.rd (i := 9) rfl)⟩ ⟨Nat.le_of_ble_eq_true rfl, Nat.le_of_ble_eq_true rfl, Nat.le_of_ble_eq_true rfl, Nat.le_of_ble_eq_true rfl, Nat.le_of_ble_eq_true rfl, qj (Nat.le_of_ble_eq_true rfl) (Nat.le_of_ble_eq_true rfl) (Nat.le_of_ble_eq_true rfl)⟩) ?_
   rintro _ w84 ⟨gAt, lAt, uAt, tAt, sAt, A0t, A1t, A2t, gct, lct, uct, tct, sct, c0t, c1t, c2t, rfl, hgct, hlct, huct, htct, hsct, hc0t, hc1t, hc2t, hm⟩
   refine ⟨_, rfl, ?_⟩
   replace HM := (show Mem w _ [.row (.slice gAt 3 gct) 3 (([⟨0, 1⟩, ⟨0, 300⟩, ⟨1, 65536⟩] : List Gr).flatMap grL) 40 2, .row (.slice lAt 3 lct) 3 (([1, 281474976710656, 0] : List Int).map I64i) 3 1, .row (.slice uAt 3 uct) 3 (([0, 300, 0] : List Int).map I64i) 3 1, .row (.slice tAt 3 tct) 3 (([⟨7, 2, 5, 0, 7, false, 18446744073709551615, 0⟩, ⟨300, 1, 65536, 1, 2, true, 128, 65535⟩, ⟨65535, 0, 1, 2, 4, false, 0, 0⟩] : List Tk).flatMap tkL) 46 8, .row (.slice sAt 3 sct) 3 (([⟨A0t, c0t, [a0, b0, d0]⟩, ⟨A1t, c1t, [a1, b1, d1]⟩, ⟨A2t, c2t, [a2, b2, d2]⟩] : List Rw).map Rw.val) 44 1, .row (.slice A0t 3 c0t) 3 (([a0, b0, d0] : List Sp).flatMap spL) 43 3, .row (.slice A1t 3 c1t) 3 (([a1, b1, d1] : List Sp).flatMap spL) 43 3, .row (.slice A2t 3 c2t) 3 (([a2, b2, d2] : List Sp).flatMap spL) 43 3, .blk g4 #[vI 281474976710656, vI 3, vQ 99, vS g11 3 3, vS g13 3 3, vS g14 3 3, vS g19 3 3, .slice As 3 cs] 32, .blk g1 #[vI 3, vQ 99, vS g11 3 3, vS g13 3 3, vS g14 3 3, vS g19 3 3, .slice As 3 cs] 30, .row (.slice As 3 cs) 3 (([⟨P0, k0, [a0, b0, d0]⟩, ⟨P1, k1, [a1, b1, d1]⟩, ⟨P2, k2, [a2, b2, d2]⟩] : List Rw).map Rw.val) 44 1, .blk g19 #[vI 7, vI 2, vI 5, vI 0, vQ 7, .bool false, vQ 18446744073709551615, vW 0, vI 300, vI 1, vI 65536, vI 1, vQ 2, .bool true, vQ 128, vW 65535, vI 65535, vI 0, vI 1, vI 2, vQ 4, .bool false, vQ 0, vW 0] 46, .blk g14 #[vI 0, vI 300, vI 0] 3, .blk g13 #[vI 1, vI 281474976710656, vI 0] 3, .blk g11 #[vI 0, vI 1, vI 0, vI 300, vI 1, vI 65536] 40, .row (.slice P0 3 k0) 3 (([a0, b0, d0] : List Sp).flatMap spL) 43 3, .row (.slice P1 3 k1) 3 (([a1, b1, d1] : List Sp).flatMap spL) 43 3, .row (.slice P2 3 k2) 3 (([a2, b2, d2] : List Sp).flatMap spL) 43 3] from HM.join hm)
   clear HF; intro a HF
   replace hgct : 3 ≤ gct := hgct
   replace hlct : 3 ≤ lct := hlct
   replace huct : 3 ≤ uct := huct
   replace htct : 3 ≤ tct := htct
   replace hsct : 3 ≤ sct := hsct
   replace hc0t : 3 ≤ c0t := hc0t
   replace hc1t : 3 ≤ c1t := hc1t
   replace hc2t : 3 ≤ c2t := hc2t
   refine fy HF HM 2 rfl rfl rfl (v := .agg #[vI 1, vI 3, vQ 99, .slice gAt 3 gct, .slice lAt 3 lct, .slice uAt 3 uct, .slice tAt 3 tct, .slice sAt 3 sct]) (Yl.build (vs := [(0, vI 1), (1, .agg #[vI 3, vQ 99, .slice gAt 3 gct, .slice lAt 3 lct, .slice uAt 3 uct, .slice tAt 3 tct, .slice sAt 3 sct])]) rfl (by kernel_rfl) (by kernel_rfl)) fun a HF => ?_
   refine fo HF 3 rfl rfl ?_
   refine qs HF HM (cs := #[vI 0, vI 0, vQ 0, .slice none 0 0, .slice none 0 0, .slice none 0 0, .slice none 0 0, .slice none 0 0]) rfl (by kernel_rfl) rfl (by decide) ?_
   clear HF HM; intro a w6 g6 HF HM
   refine fo HF 4 rfl rfl ?_
   refine e_sa HF HM 0 rfl rfl rfl rfl rfl qx rfl rfl (by simp [Value.oneCell']) ?_
   clear HM; intro w21_4 HM
   refine qb rfl ?_
   obtain ⟨gtAt, rfl⟩ := zh (HM.own (i := 4) rfl) (Nat.lt_of_le_of_lt (Nat.zero_le _) (show 0 < 3 from (by decide : 0 < 3)))
   refine wp_seq ?_
   refine zc HM [.blk g6 #[vI 1, vI 3, vQ 99, .slice gAt 3 gct, .slice lAt 3 lct, .slice uAt 3 uct, vS gtAt 3 tct, .slice sAt 3 sct] 32, .row (.slice gAt 3 gct) 3 (([⟨0, 1⟩, ⟨0, 300⟩, ⟨1, 65536⟩] : List Gr).flatMap grL) 40 2, .row (.slice lAt 3 lct) 3 (([1, 281474976710656, 0] : List Int).map I64i) 3 1, .row (.slice uAt 3 uct) 3 (([0, 300, 0] : List Int).map I64i) 3 1, .row (vS gtAt 3 tct) 3 (([⟨7, 2, 5, 0, 7, false, 18446744073709551615, 0⟩, ⟨300, 1, 65536, 1, 2, true, 128, 65535⟩, ⟨65535, 0, 1, 2, 4, false, 0, 0⟩] : List Tk).flatMap tkL) 46 8, .row (.slice sAt 3 sct) 3 (([⟨A0t, c0t, [a0, b0, d0]⟩, ⟨A1t, c1t, [a1, b1, d1]⟩, ⟨A2t, c2t, [a2, b2, d2]⟩] : List Rw).map Rw.val) 44 1, .row (.slice A0t 3 c0t) 3 (([a0, b0, d0] : List Sp).flatMap spL) 43 3, .row (.slice A1t 3 c1t) 3 (([a1, b1, d1] : List Sp).flatMap spL) 43 3, .row (.slice A2t 3 c2t) 3 (([a2, b2, d2] : List Sp).flatMap spL) 43 3, .blk g4 #[vI 281474976710656, vI 3, vQ 99, vS g11 3 3, vS g13 3 3, vS g14 3 3, vS g19 3 3, .slice As 3 cs] 32, .blk g1 #[vI 3, vQ 99, vS g11 3 3, vS g13 3 3, vS g14 3 3, vS g19 3 3, .slice As 3 cs] 30, .row (.slice As 3 cs) 3 (([⟨P0, k0, [a0, b0, d0]⟩, ⟨P1, k1, [a1, b1, d1]⟩, ⟨P2, k2, [a2, b2, d2]⟩] : List Rw).map Rw.val) 44 1, .blk g19 #[vI 7, vI 2, vI 5, vI 0, vQ 7, .bool false, vQ 18446744073709551615, vW 0, vI 300, vI 1, vI 65536, vI 1, vQ 2, .bool true, vQ 128, vW 65535, vI 65535, vI 0, vI 1, vI 2, vQ 4, .bool false, vQ 0, vW 0] 46, .blk g14 #[vI 0, vI 300, vI 0] 3, .blk g13 #[vI 1, vI 281474976710656, vI 0] 3, .blk g11 #[vI 0, vI 1, vI 0, vI 300, vI 1, vI 65536] 40, .row (.slice P0 3 k0) 3 (([a0, b0, d0] : List Sp).flatMap spL) 43 3, .row (.slice P1 3 k1) 3 (([a1, b1, d1] : List Sp).flatMap spL) 43 3, .row (.slice P2 3 k2) 3 (([a2, b2, d2] : List Sp).flatMap spL) 43 3] [0, 1, 2, 3, 4, 5, 6, 7, 8, 9, 10, 11, 12, 13, 14, 15, 16, 17, 18] [15] fun HM HS => ?_
   refine ap HF (fun _ => HS) [0, 1, 3, 4, 6, 7, 9, 10] #[true, true, false, true, true, false, true, true, false, true, true, false, false, false, false, false] [(96, vI 2), (93, vP g6 6), (90, vI 1), (89, vI 1), (87, vP g6 6)] fun a HF => ?_
   refine ay HF HS 2 rfl rfl rfl (v := vS gtAt 3 tct) (Yl.qf rfl rfl (by kernel_rfl) (fun _ h => h.cell (i := 0) rfl rfl)) fun a HF => ?_
   refine ay HF HS 5 rfl rfl rfl (v := vS gtAt 1 1) (Yl.qk7 ei_tk (j := 1) (q := 1) rfl rfl rfl rfl (by omega) (by omega)) fun a HF => ?_
   refine ay HF HS 8 rfl rfl rfl (v := vS gtAt 3 tct) (Yl.qf rfl rfl (by kernel_rfl) (fun _ h => h.cell (i := 0) rfl rfl)) fun a HF => ?_
   refine ay HF HS 11 rfl rfl rfl (v := .slice (if tct = 2 then some ⟨gtAt, 0, none⟩ else (some ⟨gtAt, 0, none⟩ : Option Addr).map (·.add (2 * 8))) (3 - 2) (tct - 2)) (Yl.sliceFrom ei_tk (j := 2) rfl rfl rfl (by omega)) fun a HF => ?_
   refine qm [12] (by kernel_rfl) rfl ?_
   refine all_cons ?_ all_nil
   refine qk HF (i := 12) rfl rfl ?_
   refine zx HF HM (xs := ([⟨7, 2, 5, 0, 7, false, 18446744073709551615, 0⟩] : List Tk).flatMap tkL) (news := ([⟨65535, 0, 1, 2, 4, false, 0, 0⟩] : List Tk).flatMap tkL) rfl ei_tk rfl rfl ((HM.rd (i := 4) rfl).qs2 zf (l := [⟨7, 2, 5, 0, 7, false, 18446744073709551615, 0⟩, ⟨300, 1, 65536, 1, 2, true, 128, 65535⟩, ⟨65535, 0, 1, 2, 4, false, 0, 0⟩]) (k := 1) (Nat.le_of_ble_eq_true rfl)) ((HM.rd (i := 4) rfl).qva zf (l := [⟨7, 2, 5, 0, 7, false, 18446744073709551615, 0⟩, ⟨300, 1, 65536, 1, 2, true, 128, 65535⟩, ⟨65535, 0, 1, 2, 4, false, 0, 0⟩]) (k := 2) (Nat.le_of_ble_eq_true rfl) htct) (by omega) (by omega) (fun h => by cases h) (by omega) (by omega) rfl (by decide) ?_
   clear HF HM; intro a w98 g98 c98 HF HM hc98
   refine keepS (HM.picks [1, 2, 3, 4, 5, 6, 7, 8, 9, 10, 11, 12, 13, 14, 15, 16, 17, 18, 19] (by decide) rfl) (fun HS => ?_)
   refine ap HF (fun _ => HS) [13, 14] #[true, true, true, true, true, true, true, true, true, true, true, true, true, true, true, false] [(100, vP g6 6)] fun a HF => ?_
   refine qm [15] (by kernel_rfl) rfl ?_
   refine all_cons ?_ all_nil
   refine qk HF (i := 15) rfl rfl ?_
   refine q4 HF HM (i := 1) rfl rfl rfl rfl (by kernel_rfl) rfl rfl (by simp) ?_
   clear HM; intro w22_15 HM
   refine noS (by kernel_rfl) ?_
   refine qq (by kernel_rfl) ?_
   have hnsomeg980none : 1 + (3 - 2) = 2 := rfl
   replace HM := HM.reRow (i := 0) (ys := ([⟨7, 2, 5, 0, 7, false, 18446744073709551615, 0⟩, ⟨65535, 0, 1, 2, 4, false, 0, 0⟩] : List Tk).flatMap tkL) rfl hnsomeg980none (by kernel_rfl)
   rw [hnsomeg980none] at hc98
   replace HF := HF.as (t := 98) (u := vS g98 2 c98) rfl (by rw [hnsomeg980none])
   rw [hnsomeg980none] at HM
   replace HM : Mem w _ [.row (vS g98 2 c98) 2 (([⟨7, 2, 5, 0, 7, false, 18446744073709551615, 0⟩, ⟨65535, 0, 1, 2, 4, false, 0, 0⟩] : List Tk).flatMap tkL) 46 8, .blk g6 #[vI 1, vI 3, vQ 99, .slice gAt 3 gct, .slice lAt 3 lct, .slice uAt 3 uct, vS g98 2 c98, .slice sAt 3 sct] 32, .row (.slice gAt 3 gct) 3 (([⟨0, 1⟩, ⟨0, 300⟩, ⟨1, 65536⟩] : List Gr).flatMap grL) 40 2, .row (.slice lAt 3 lct) 3 (([1, 281474976710656, 0] : List Int).map I64i) 3 1, .row (.slice uAt 3 uct) 3 (([0, 300, 0] : List Int).map I64i) 3 1, .row (vS gtAt 3 tct) 3 (([⟨7, 2, 5, 0, 7, false, 18446744073709551615, 0⟩, ⟨300, 1, 65536, 1, 2, true, 128, 65535⟩, ⟨65535, 0, 1, 2, 4, false, 0, 0⟩] : List Tk).flatMap tkL) 46 8, .row (.slice sAt 3 sct) 3 (([⟨A0t, c0t, [a0, b0, d0]⟩, ⟨A1t, c1t, [a1, b1, d1]⟩, ⟨A2t, c2t, [a2, b2, d2]⟩] : List Rw).map Rw.val) 44 1, .row (.slice A0t 3 c0t) 3 (([a0, b0, d0] : List Sp).flatMap spL) 43 3, .row (.slice A1t 3 c1t) 3 (([a1, b1, d1] : List Sp).flatMap spL) 43 3, .row (.slice A2t 3 c2t) 3 (([a2, b2, d2] : List Sp).flatMap spL) 43 3, .blk g4 #[vI 281474976710656, vI 3, vQ 99, vS g11 3 3, vS g13 3 3, vS g14 3 3, vS g19 3 3, .slice As 3 cs] 32, .blk g1 #[vI 3, vQ 99, vS g11 3 3, vS g13 3 3, vS g14 3 3, vS g19 3 3, .slice As 3 cs] 30, .row (.slice As 3 cs) 3 (([⟨P0, k0, [a0, b0, d0]⟩, ⟨P1, k1, [a1, b1, d1]⟩, ⟨P2, k2, [a2, b2, d2]⟩] : List Rw).map Rw.val) 44 1, .blk g19 #[vI 7, vI 2, vI 5, vI 0, vQ 7, .bool false, vQ 18446744073709551615, vW 0, vI 300, vI 1, vI 65536, vI 1, vQ 2, .bool true, vQ 128, vW 65535, vI 65535, vI 0, vI 1, vI 2, vQ 4, .bool false, vQ 0, vW 0] 46, .blk g14 #[vI 0, vI 300, vI 0] 3, .blk g13 #[vI 1, vI 281474976710656, vI 0] 3, .blk g11 #[vI 0, vI 1, vI 0, vI 300, vI 1, vI 65536] 40, .row (.slice P0 3 k0) 3 (([a0, b0, d0] : List Sp).flatMap spL) 43 3, .row (.slice P1 3 k1) 3 (([a1, b1, d1] : List Sp).flatMap spL) 43 3, .row (.slice P2 3 k2) 3 (([a2, b2, d2] : List Sp).flatMap spL) 43 3] := HM
   refine wp_seq (qa ?_)
   refine fy HF HM 0 rfl rfl rfl (v := .agg #[vI 3, vQ 99, vS g11 3 3, vS g13 3 3, vS g14 3 3, vS g19 3 3, .slice As 3 cs]) (Yl.qr rfl rfl si_st rfl (fun _ h => qe (h.blk (i := 11) rfl))) fun a HF => ?_
   refine fo HF 1 rfl rfl ?_
   refine e_cl HF [.agg #[vI 3, vQ 99, vS g11 3 3, vS g13 3 3, vS g14 3 3, vS g19 3 3, .slice As 3 cs]] rfl rfl (qbw (x := (⟨0, ⟨3, 99, some ⟨g11, 0, none⟩, 3, [⟨0, 1⟩, ⟨0, 300⟩, ⟨1, 65536⟩], some ⟨g13, 0, none⟩, 3, [1, 281474976710656, 0], some ⟨g14, 0, none⟩, 3, [0, 300, 0], some ⟨g19, 0, none⟩, 3, [⟨7, 2, 5, 0, 7, false, 18446744073709551615, 0⟩, ⟨300, 1, 65536, 1, 2, true, 128, 65535⟩, ⟨65535, 0, 1, 2, 4, false, 0, 0⟩], As, cs, [⟨P0, k0, [a0, b0, d0]⟩, ⟨P1, k1, [a1, b1, d1]⟩, ⟨P2, k2, [a2, b2, d2]⟩]⟩⟩ : Snm).st) rfl _ ⟨(HM.rdBlk (i := 16) (n := 3) (size := 2) rfl rfl), (HM.rdBlk (i := 15) (n := 3) (size := 1) rfl rfl), (HM.rdBlk (i := 14) (n := 3) (size := 1) rfl rfl), (HM.rdBlk (i := 13) (n := 3) (size := 8) rfl rfl), (HM.rd (i := 12) rfl), qj (HM.rd (i := 17) rfl) (HM.rd (i := 18) rfl) (HM.rd (i := 19) rfl)⟩ ⟨Nat.le_of_ble_eq_true rfl, Nat.le_of_ble_eq_true rfl, Nat.le_of_ble_eq_true rfl, Nat.le_of_ble_eq_true rfl, Nat.le_of_ble_eq_true rfl, qj (Nat.le_of_ble_eq_true rfl) (Nat.le_of_ble_eq_true rfl) (Nat.le_of_ble_eq_true rfl)⟩) ?_
   rintro _ w102 ⟨gAu, lAu, uAu, tAu, sAu, A0u, A1u, A2u, gcu, lcu, ucu, tcu, scu, c0u, c1u, c2u, rfl, hgcu, hlcu, hucu, htcu, hscu, hc0u, hc1u, hc2u, hm⟩
   refine ⟨_, rfl, ?_⟩
   replace HM := (show Mem w _ [.row (.slice gAu 3 gcu) 3 (([⟨0, 1⟩, ⟨0, 300⟩, ⟨1, 65536⟩] : List Gr).flatMap grL) 40 2, .row (.slice lAu 3 lcu) 3 (([1, 281474976710656, 0] : List Int).map I64i) 3 1, .row (.slice uAu 3 ucu) 3 (([0, 300, 0] : List Int).map I64i) 3 1, .row (.slice tAu 3 tcu) 3 (([⟨7, 2, 5, 0, 7, false, 18446744073709551615, 0⟩, ⟨300, 1, 65536, 1, 2, true, 128, 65535⟩, ⟨65535, 0, 1, 2, 4, false, 0, 0⟩] : List Tk).flatMap tkL) 46 8, .row (.slice sAu 3 scu) 3 (([⟨A0u, c0u, [a0, b0, d0]⟩, ⟨A1u, c1u, [a1, b1, d1]⟩, ⟨A2u, c2u, [a2, b2, d2]⟩] : List Rw).map Rw.val) 44 1, .row (.slice A0u 3 c0u) 3 (([a0, b0, d0] : List Sp).flatMap spL) 43 3, .row (.slice A1u 3 c1u) 3 (([a1, b1, d1] : List Sp).flatMap spL) 43 3, .row (.slice A2u 3 c2u) 3 (([a2, b2, d2] : List Sp).flatMap spL) 43 3, .row (vS g98 2 c98) 2 (([⟨7, 2, 5, 0, 7, false, 18446744073709551615, 0⟩, ⟨65535, 0, 1, 2, 4, false, 0, 0⟩] : List Tk).flatMap tkL) 46 8, .blk g6 #[vI 1, vI 3, vQ 99, .slice gAt 3 gct, .slice lAt 3 lct, .slice uAt 3 uct, vS g98 2 c98, .slice sAt 3 sct] 32, .row (.slice gAt 3 gct) 3 (([⟨0, 1⟩, ⟨0, 300⟩, ⟨1, 65536⟩] : List Gr).flatMap grL) 40 2, .row (.slice lAt 3 lct) 3 (([1, 281474976710656, 0] : List Int).map I64i) 3 1, .row (.slice uAt 3 uct) 3 (([0, 300, 0] : List Int).map I64i) 3 1, .row (vS gtAt 3 tct) 3 (([⟨7, 2, 5, 0, 7, false, 18446744073709551615, 0⟩, ⟨300, 1, 65536, 1, 2, true, 128, 65535⟩, ⟨65535, 0, 1, 2, 4, false, 0, 0⟩] : List Tk).flatMap tkL) 46 8, .row (.slice sAt 3 sct) 3 (([⟨A0t, c0t, [a0, b0, d0]⟩, ⟨A1t, c1t, [a1, b1, d1]⟩, ⟨A2t, c2t, [a2, b2, d2]⟩] : List Rw).map Rw.val) 44 1, .row (.slice A0t 3 c0t) 3 (([a0, b0, d0] : List Sp).flatMap spL) 43 3, .row (.slice A1t 3 c1t) 3 (([a1, b1, d1] : List Sp).flatMap spL) 43 3, .row (.slice A2t 3 c2t) 3 (([a2, b2, d2] : List Sp).flatMap spL) 43 3, .blk g4 #[vI 281474976710656, vI 3, vQ 99, vS g11 3 3, vS g13 3 3, vS g14 3 3, vS g19 3 3, .slice As 3 cs] 32, .blk g1 #[vI 3, vQ 99, vS g11 3 3, vS g13 3 3, vS g14 3 3, vS g19 3 3, .slice As 3 cs] 30, .row (.slice As 3 cs) 3 (([⟨P0, k0, [a0, b0, d0]⟩, ⟨P1, k1, [a1, b1, d1]⟩, ⟨P2, k2, [a2, b2, d2]⟩] : List Rw).map Rw.val) 44 1, .blk g19 #[vI 7, vI 2, vI 5, vI 0, vQ 7, .bool false, vQ 18446744073709551615, vW 0, vI 300, vI 1, vI 65536, vI 1, vQ 2, .bool true, vQ 128, vW 65535, vI 65535, vI 0, vI 1, vI 2, vQ 4, .bool false, vQ 0, vW 0] 46, .blk g14 #[vI 0, vI 300, vI 0] 3, .blk g13 #[vI 1, vI 281474976710656, vI 0] 3, .blk g11 #[vI 0, vI 1, vI 0, vI 300, vI 1, vI 65536] 40, .row (.slice P0 3 k0) 3 (([a0, b0, d0] : List Sp).flatMap spL) 43 3, .row (.slice P1 3 k1) 3 (([a1, b1, d1] : List Sp).flatMap spL) 43 3, .row (.slice P2 3 k2) 3 (([a2, b2, d2] : List Sp).flatMap spL) 43 3] from HM.join hm)
   clear HF; intro a HF
   replace hgcu : 3 ≤ gcu := hgcu
   replace hlcu : 3 ≤ lcu := hlcu
   replace hucu : 3 ≤ ucu := hucu
   replace htcu : 3 ≤ tcu := htcu
   replace hscu : 3 ≤ scu := hscu
   replace hc0u : 3 ≤ c0u := hc0u
   replace hc1u : 3 ≤ c1u := hc1u
   replace hc2u : 3 ≤ c2u := hc2u
   refine fy HF HM 2 rfl rfl rfl (v := .agg #[vI 1, vI 3, vQ 99, .slice gAu 3 gcu, .slice lAu 3 lcu, .slice uAu 3 ucu, .slice tAu 3 tcu, .slice sAu 3 scu]) (Yl.build (vs := [(0, vI 1), (1, .agg #[vI 3, vQ 99, .slice gAu 3 gcu, .slice lAu 3 lcu, .slice uAu 3 ucu, .slice tAu 3 tcu, .slice sAu 3 scu])]) rfl (by kernel_rfl) (by kernel_rfl)) fun a HF => ?_
   refine fo HF 3 rfl rfl ?_
   refine qs HF HM (cs := #[vI 0, vI 0, vQ 0, .slice none 0 0, .slice none 0 0, .slice none 0 0, .slice none 0 0, .slice none 0 0]) rfl (by kernel_rfl) rfl (by decide) ?_
   clear HF HM; intro a w7 g7 HF HM
   refine fo HF 4 rfl rfl ?_
   refine e_sa HF HM 0 rfl rfl rfl rfl rfl qx rfl rfl (by simp [Value.oneCell']) ?_
   clear HM; intro w23_4 HM
   refine qb rfl (wp_seq (qa ?_))
   refine fp HF 2 0 [(105, vP g7 6)] fun a HF => ?_
   refine fy HF HM 2 rfl rfl rfl (v := .slice tAu 3 tcu) (Yl.qf rfl rfl (by kernel_rfl) (fun _ h => h.cell (i := 0) rfl rfl)) fun a HF => ?_
   refine fp HF 3 3 [(109, vI 1), (107, vI 1)] fun a HF => ?_
   obtain ⟨gtAu, rfl⟩ := zh (HM.own (i := 4) rfl) (Nat.lt_of_le_of_lt (Nat.zero_le _) (show 1 < 3 from by decide))
   refine fy HF HM 6 rfl rfl rfl (v := vP gtAu 8) (Yl.indexAddr (ad := ⟨gtAu, 0, none⟩) (y := 1) (sz := 8) rfl rfl rfl (by decide) (by kernel_rfl)) fun a HF => ?_
   refine fp HF 1 7 [(111, vP gtAu 9)] fun a HF => ?_
   refine fo HF 8 rfl rfl ?_
   refine zu HF HM (i := 4) rfl rfl rfl rfl (by kernel_rfl) rfl rfl (Nat.le_of_ble_eq_true rfl) ?_
   clear HM; intro w24_8 HM
   replace HM := HM.asRow (i := 4) (ys := ([⟨7, 2, 5, 0, 7, false, 18446744073709551615, 0⟩, ⟨300, 1, 65536, 1, 2, true, 128, 65535⟩, ⟨65535, 0, 1, 2, 4, false, 0, 0⟩] : List Tk).flatMap tkL) rfl (rfl)
   refine qb rfl (wp_seq (qa ?_))
   refine fp HF 2 0 [(113, vP g7 7)] fun a HF => ?_
   refine fy HF HM 2 rfl rfl rfl (v := .slice sAu 3 scu) (Yl.qf rfl rfl (by kernel_rfl) (fun _ h => h.cell (i := 0) rfl rfl)) fun a HF => ?_
   obtain ⟨gsAu, rfl⟩ := zh (HM.own (i := 5) rfl) (Nat.lt_of_le_of_lt (Nat.zero_le _) (show 2 < 3 from by omega))
   refine fy HF HM 3 rfl rfl rfl (v := vP gsAu 2) (Yl.indexAddr (ad := ⟨gsAu, 0, none⟩) (y := 2) (sz := 1) rfl rfl rfl (by omega) (by kernel_rfl)) fun a HF => ?_
   refine fy HF HM 4 rfl rfl rfl (v := .slice ((⟨A2u, c2u, [a2, b2, d2]⟩ : Rw).A) ((⟨A2u, c2u, [a2, b2, d2]⟩ : Rw).l.length) ((⟨A2u, c2u, [a2, b2, d2]⟩ : Rw).c)) (Yl.qf rfl rfl (by kernel_rfl) (fun _ h => h.qad (i := 5) rfl (k := 2) (qz (F := Rw.val) (k := 2) (x := (⟨A2u, c2u, [a2, b2, d2]⟩ : Rw)) (show ([⟨A0u, c0u, [a0, b0, d0]⟩, ⟨A1u, c1u, [a1, b1, d1]⟩, ⟨A2u, c2u, [a2, b2, d2]⟩] : List Rw)[2]? = some _ from rfl)))) fun a HF => ?_
   replace HF := HF.sp 116 (.slice A2u 3 c2u) rfl (rfl)
   refine fp HF 1 5 [(117, vI 1)] fun a HF => ?_
   obtain ⟨gA2u, rfl⟩ := zh (HM.own (i := 8) rfl) (Nat.lt_of_le_of_lt (Nat.zero_le _) (show 1 < 3 from by decide))
   refine fy HF HM 6 rfl rfl rfl (v := vP gA2u 3) (Yl.indexAddr (ad := ⟨gA2u, 0, none⟩) (y := 1) (sz := 3) rfl rfl rfl (by decide) (by kernel_rfl)) fun a HF => ?_
   refine fp HF 1 7 [(119, vP gA2u 5)] fun a HF => ?_
   refine fo HF 8 rfl rfl ?_
   refine zu HF HM (i := 8) rfl rfl rfl rfl (by kernel_rfl) rfl rfl (Nat.le_of_ble_eq_true rfl) ?_
   clear HM; intro w25_8 HM
   replace HM := HM.asRow (i := 8) (ys := ([a2, ⟨b2.v, b2.r, 0⟩, d2] : List Sp).flatMap spL) rfl (rfl)
   refine qb rfl (wp_seq (qa ?_))
   refine fy HF HM 0 rfl rfl rfl (v := .agg #[vI 1, vI 3, vQ 99, .slice gAt 3 gct, .slice lAt 3 lct, .slice uAt 3 uct, vS g98 2 c98, .slice sAt 3 sct]) (Yl.qr rfl rfl qx rfl (fun _ h => qe (h.blk (i := 10) rfl))) fun a HF => ?_
   refine fy HF HM 1 rfl rfl rfl (v := .agg #[vI 281474976710656, vI 3, vQ 99, vS g11 3 3, vS g13 3 3, vS g14 3 3, vS g19 3 3, .slice As 3 cs]) (Yl.qr rfl rfl qx rfl (fun _ h => qe (h.blk (i := 19) rfl))) fun a HF => ?_
   refine fo HF 2 rfl rfl ?_
   refine e_is HF HM [.agg #[vI 1, vI 3, vQ 99, .slice gAt 3 gct, .slice lAt 3 lct, .slice uAt 3 uct, vS g98 2 c98, .slice sAt 3 sct], .agg #[vI 281474976710656, vI 3, vQ 99, vS g11 3 3, vS g13 3 3, vS g14 3 3, vS g19 3 3, .slice As 3 cs]] (.bool true) rfl rfl (z3 (⟨1, ⟨3, 99, gAt, gct, [⟨0, 1⟩, ⟨0, 300⟩, ⟨1, 65536⟩], lAt, lct, [1, 281474976710656, 0], uAt, uct, [0, 300, 0], some ⟨g98, 0, none⟩, c98, [⟨7, 2, 5, 0, 7, false, 18446744073709551615, 0⟩, ⟨65535, 0, 1, 2, 4, false, 0, 0⟩], sAt, sct, [⟨A0t, c0t, [a0, b0, d0]⟩, ⟨A1t, c1t, [a1, b1, d1]⟩, ⟨A2t, c2t, [a2, b2, d2]⟩]⟩⟩ : Snm) (⟨281474976710656, ⟨3, 99, some ⟨g11, 0, none⟩, 3, [⟨0, 1⟩, ⟨0, 300⟩, ⟨1, 65536⟩], some ⟨g13, 0, none⟩, 3, [1, 281474976710656, 0], some ⟨g14, 0, none⟩, 3, [0, 300, 0], some ⟨g19, 0, none⟩, 3, [⟨7, 2, 5, 0, 7, false, 18446744073709551615, 0⟩, ⟨300, 1, 65536, 1, 2, true, 128, 65535⟩, ⟨65535, 0, 1, 2, 4, false, 0, 0⟩], As, cs, [⟨P0, k0, [a0, b0, d0]⟩, ⟨P1, k1, [a1, b1, d1]⟩, ⟨P2, k2, [a2, b2, d2]⟩]⟩⟩ : Snm) ⟨(show I64 3 from (show I64 (3) by unfold I64; decide)), (show 99 < 18446744073709551616 from (show 99 < 18446744073709551616 by decide)), qj ⟨(show I64 (0) by unfold I64; decide), (show I64 (1) by unfold I64; decide)⟩ ⟨(show I64 (0) by unfold I64; decide), (show I64 (300) by unfold I64; decide)⟩ ⟨(show I64 (1) by unfold I64; decide), (show I64 (65536) by unfold I64; decide)⟩, qj (show I64 (1) by unfold I64; decide) (show I64 (281474976710656) by unfold I64; decide) (show I64 (0) by unfold I64; decide), qj (show I64 (0) by unfold I64; decide) (show I64 (300) by unfold I64; decide) (show I64 (0) by unfold I64; decide), qac ⟨(show I64 (7) by unfold I64; decide), (show I64 (2) by unfold I64; decide), (show I64 (5) by unfold I64; decide), (show I64 (0) by unfold I64; decide), (show 7 < 18446744073709551616 by decide), (show 18446744073709551615 < 18446744073709551616 by decide), (show 0 < 4294967296 by decide)⟩ ⟨(show I64 (65535) by unfold I64; decide), (show I64 (0) by unfold I64; decide), (show I64 (1) by unfold I64; decide), (show I64 (2) by unfold I64; decide), (show 4 < 18446744073709551616 by decide), (show 0 < 18446744073709551616 by decide), (show 0 < 4294967296 by decide)⟩, qj (qj ha0 hb0 hd0) (qj ha1 hb1 hd1) (qj ha2 hb2 hd2)⟩ ⟨Nat.le_of_ble_eq_true rfl, Nat.le_of_ble_eq_true rfl, Nat.le_of_ble_eq_true rfl, Nat.le_of_ble_eq_true rfl, Nat.le_of_ble_eq_true rfl, qj (Nat.le_of_ble_eq_true rfl) (Nat.le_of_ble_eq_true rfl) (Nat.le_of_ble_eq_true rfl)⟩ ⟨hgct, hlct, huct, hc98, hsct, qj hc0t hc1t hc2t⟩ ⟨Nat.le_of_ble_eq_true rfl, Nat.le_of_ble_eq_true rfl, Nat.le_of_ble_eq_true rfl, Nat.le_of_ble_eq_true rfl, Nat.le_of_ble_eq_true rfl, qj (Nat.le_of_ble_eq_true rfl) (Nat.le_of_ble_eq_true rfl) (Nat.le_of_ble_eq_true rfl)⟩ B _ (hL.mem HM hB) (HM.le hB) ⟨(HM.rd (i := 11) rfl), (HM.rd (i := 12) rfl), (HM.rd (i := 13) rfl), (HM.rd (i := 9) rfl), (HM.rd (i := 15) rfl), qj (HM.rd (i := 16) rfl) (HM.rd (i := 17) rfl) (HM.rd (i := 18) rfl)⟩ ⟨(HM.rdBlk (i := 25) (n := 3) (size := 2) rfl rfl), (HM.rdBlk (i := 24) (n := 3) (size := 1) rfl rfl), (HM.rdBlk (i := 23) (n := 3) (size := 1) rfl rfl), (HM.rdBlk (i := 22) (n := 3) (size := 8) rfl rfl), (HM.rd (i := 21) rfl), qj (HM.rd (i := 26) rfl) (HM.rd (i := 27) rfl) (HM.rd (i := 28) rfl)⟩) fun w122 hbw HM a HF => ?_
   refine fp HF 2 3 [(124, .bool false)] fun a HF => ?_
   refine fy HF HM 5 rfl rfl rfl (v := .agg #[vI 1, vI 3, vQ 99, .slice gAu 3 gcu, .slice lAu 3 lcu, .slice uAu 3 ucu, vS gtAu 3 tcu, vS gsAu 3 scu]) (Yl.qr rfl rfl qx rfl (fun _ h => qe (h.blk (i := 0) rfl))) fun a HF => ?_
   refine fy HF HM 6 rfl rfl rfl (v := .agg #[vI 1, vI 3, vQ 99, .slice gAt 3 gct, .slice lAt 3 lct, .slice uAt 3 uct, vS g98 2 c98, .slice sAt 3 sct]) (Yl.qr rfl rfl qx rfl (fun _ h => qe (h.blk (i := 10) rfl))) fun a HF => ?_
   refine fo HF 7 rfl rfl ?_
   refine e_is HF HM [.agg #[vI 1, vI 3, vQ 99, .slice gAu 3 gcu, .slice lAu 3 lcu, .slice uAu 3 ucu, vS gtAu 3 tcu, vS gsAu 3 scu], .agg #[vI 1, vI 3, vQ 99, .slice gAt 3 gct, .slice lAt 3 lct, .slice uAt 3 uct, vS g98 2 c98, .slice sAt 3 sct]] (.bool true) rfl rfl (z3 (⟨1, ⟨3, 99, gAu, gcu, [⟨0, 1⟩, ⟨0, 300⟩, ⟨1, 65536⟩], lAu, lcu, [1, 281474976710656, 0], uAu, ucu, [0, 300, 0], some ⟨gtAu, 0, none⟩, tcu, [⟨7, 2, 5, 0, 7, false, 18446744073709551615, 0⟩, ⟨300, 1, 65536, 1, 2, true, 128, 65535⟩, ⟨65535, 0, 1, 2, 4, false, 0, 0⟩], some ⟨gsAu, 0, none⟩, scu, [⟨A0u, c0u, [a0, b0, d0]⟩, ⟨A1u, c1u, [a1, b1, d1]⟩, ⟨some ⟨gA2u, 0, none⟩, c2u, [a2, ⟨b2.v, b2.r, 0⟩, d2]⟩]⟩⟩ : Snm) (⟨1, ⟨3, 99, gAt, gct, [⟨0, 1⟩, ⟨0, 300⟩, ⟨1, 65536⟩], lAt, lct, [1, 281474976710656, 0], uAt, uct, [0, 300, 0], some ⟨g98, 0, none⟩, c98, [⟨7, 2, 5, 0, 7, false, 18446744073709551615, 0⟩, ⟨65535, 0, 1, 2, 4, false, 0, 0⟩], sAt, sct, [⟨A0t, c0t, [a0, b0, d0]⟩, ⟨A1t, c1t, [a1, b1, d1]⟩, ⟨A2t, c2t, [a2, b2, d2]⟩]⟩⟩ : Snm) ⟨(show I64 3 from (show I64 (3) by unfold I64; decide)), (show 99 < 18446744073709551616 from (show 99 < 18446744073709551616 by decide)), qj ⟨(show I64 (0) by unfold I64; decide), (show I64 (1) by unfold I64; decide)⟩ ⟨(show I64 (0) by unfold I64; decide), (show I64 (300) by unfold I64; decide)⟩ ⟨(show I64 (1) by unfold I64; decide), (show I64 (65536) by unfold I64; decide)⟩, qj (show I64 (1) by unfold I64; decide) (show I64 (281474976710656) by unfold I64; decide) (show I64 (0) by unfold I64; decide), qj (show I64 (0) by unfold I64; decide) (show I64 (300) by unfold I64; decide) (show I64 (0) by unfold I64; decide), qj ⟨(show I64 (7) by unfold I64; decide), (show I64 (2) by unfold I64; decide), (show I64 (5) by unfold I64; decide), (show I64 (0) by unfold I64; decide), (show 7 < 18446744073709551616 by decide), (show 18446744073709551615 < 18446744073709551616 by decide), (show 0 < 4294967296 by decide)⟩ ⟨(show I64 (300) by unfold I64; decide), (show I64 (1) by unfold I64; decide), (show I64 (65536) by unfold I64; decide), (show I64 (1) by unfold I64; decide), (show 2 < 18446744073709551616 by decide), (show 128 < 18446744073709551616 by decide), (show 65535 < 4294967296 by decide)⟩ ⟨(show I64 (65535) by unfold I64; decide), (show I64 (0) by unfold I64; decide), (show I64 (1) by unfold I64; decide), (show I64 (2) by unfold I64; decide), (show 4 < 18446744073709551616 by decide), (show 0 < 18446744073709551616 by decide), (show 0 < 4294967296 by decide)⟩, qj (qj ha0 hb0 hd0) (qj ha1 hb1 hd1) (qj ha2 (qeg hb2) hd2)⟩ ⟨Nat.le_of_ble_eq_true rfl, Nat.le_of_ble_eq_true rfl, Nat.le_of_ble_eq_true rfl, Nat.le_of_ble_eq_true rfl, Nat.le_of_ble_eq_true rfl, qj (Nat.le_of_ble_eq_true rfl) (Nat.le_of_ble_eq_true rfl) (Nat.le_of_ble_eq_true rfl)⟩ ⟨hgcu, hlcu, hucu, htcu, hscu, qj hc0u hc1u hc2u⟩ ⟨Nat.le_of_ble_eq_true rfl, Nat.le_of_ble_eq_true rfl, Nat.le_of_ble_eq_true rfl, Nat.le_of_ble_eq_true rfl, Nat.le_of_ble_eq_true rfl, qj (Nat.le_of_ble_eq_true rfl) (Nat.le_of_ble_eq_true rfl) (Nat.le_of_ble_eq_true rfl)⟩ B _ (hL.mem HM hB) (HM.le hB) ⟨(HM.rd (i := 1) rfl), (HM.rd (i := 2) rfl), (HM.rd (i := 3) rfl), (HM.rd (i := 4) rfl), (HM.rd (i := 5) rfl), qj (HM.rd (i := 6) rfl) (HM.rd (i := 7) rfl) (HM.rd (i := 8) rfl)⟩ ⟨(HM.rd (i := 11) rfl), (HM.rd (i := 12) rfl), (HM.rd (i := 13) rfl), (HM.rd (i := 9) rfl), (HM.rd (i := 15) rfl), qj (HM.rd (i := 16) rfl) (HM.rd (i := 17) rfl) (HM.rd (i := 18) rfl)⟩) fun w127 hbw HM a HF => ?_
   refine fp HF 2 8 [(129, .bool false)] fun a HF => ?_
   refine qb rfl (qc HF rfl (wp_skip (qa ?_)))
   refine fp HF 2 0 [(80, vI 2)] fun a HF => ?_
   refine qb rfl ?_
   replace HF := HF.to [(80, vI 2), (129, .bool false), (7, vP g7 0), (98, vS g98 2 c98), (6, vP g6 0), (5, vI 1), (81, .bool true), (79, vI 3), (4, vP g4 0), (1, vP g1 0)]
   exact ⟨_, (by omega), 2, by omega, rfl, HF.sub (by kernel_rfl), HM.picks [19, 20, 21, 22, 23, 24, 25, 26, 27, 28] (by decide) rfl⟩
  ·
   replace HF := HF.as (t := 80) (u := vI 2) rfl rfl
   refine qd HF rfl (wp_skip (wp_seq (wp_block (wp_seq (qa ?_)))))
   refine fp HF 2 0 [(5, vI 2)] fun a HF => ?_
   refine qb rfl (wp_seq (qa ?_))
   refine fy HF HM 0 rfl rfl rfl (v := .agg #[vI 3, vQ 99, vS g11 3 3, vS g13 3 3, vS g14 3 3, vS g19 3 3, .slice As 3 cs]) (Yl.qr rfl rfl si_st rfl (fun _ h => qe (h.blk (i := 1) rfl))) fun a HF => ?_
   refine fo HF 1 rfl rfl ?_
   refine e_cl HF [.agg #[vI 3, vQ 99, vS g11 3 3, vS g13 3 3, vS g14 3 3, vS g19 3 3, .slice As 3 cs]] rfl rfl (qbw (x := (⟨0, ⟨3, 99, some ⟨g11, 0, none⟩, 3, [⟨0, 1⟩, ⟨0, 300⟩, ⟨1, 65536⟩], some ⟨g13, 0, none⟩, 3, [1, 281474976710656, 0], some ⟨g14, 0, none⟩, 3, [0, 300, 0], some ⟨g19, 0, none⟩, 3, [⟨7, 2, 5, 0, 7, false, 18446744073709551615, 0⟩, ⟨300, 1, 65536, 1, 2, true, 128, 65535⟩, ⟨65535, 0, 1, 2, 4, false, 0, 0⟩], As, cs, [⟨P0, k0, [a0, b0, d0]⟩, ⟨P1, k1, [a1, b1, d1]⟩, ⟨P2, k2, [a2, b2, d2]⟩]⟩⟩ : Snm).st) rfl _ ⟨(HM.rdBlk (i := 6) (n := 3) (size := 2) rfl rfl), (HM.rdBlk (i := 5) (n := 3) (size := 1) rfl rfl), (HM.rdBlk (i := 4) (n := 3) (size := 1) rfl rfl), (HM.rdBlk (i := 3) (n := 3) (size := 8) rfl rfl), (HM.rd (i := 2) rfl), qj (HM.rd (i := 7) rfl) (HM.rd (i := 8) rfl) (HM.rd (i := 9) rfl)⟩ ⟨Nat.le_of_ble_eq_true rfl, Nat.le_of_ble_eq_true rfl, Nat.le_of_ble_eq_true rfl, Nat.le_of_ble_eq_true rfl, Nat.le_of_ble_eq_true rfl, qj (Nat.le_of_ble_eq_true rfl) (Nat.le_of_ble_eq_true rfl) (Nat.le_of_ble_eq_true rfl)⟩) ?_
   rintro _ w84 ⟨gAt, lAt, uAt, tAt, sAt, A0t, A1t, A2t, gct, lct, uct, tct, sct, c0t, c1t, c2t, rfl, hgct, hlct, huct, htct, hsct, hc0t, hc1t, hc2t, hm⟩
   refine ⟨_, rfl, ?_⟩
   replace HM := (show Mem w _ [.row (.slice gAt 3 gct) 3 (([⟨0, 1⟩, ⟨0, 300⟩, ⟨1, 65536⟩] : List Gr).flatMap grL) 40 2, .row (.slice lAt 3 lct) 3 (([1, 281474976710656, 0] : List Int).map I64i) 3 1, .row (.slice uAt 3 uct) 3 (([0, 300, 0] : List Int).map I64i) 3 1, .row (.slice tAt 3 tct) 3 (([⟨7, 2, 5, 0, 7, false, 18446744073709551615, 0⟩, ⟨300, 1, 65536, 1, 2, true, 128, 65535⟩, ⟨65535, 0, 1, 2, 4, false, 0, 0⟩] : List Tk).flatMap tkL) 46 8, .row (.slice sAt 3 sct) 3 (([⟨A0t, c0t, [a0, b0, d0]⟩, ⟨A1t, c1t, [a1, b1, d1]⟩, ⟨A2t, c2t, [a2, b2, d2]⟩] : List Rw).map Rw.val) 44 1, .row (.slice A0t 3 c0t) 3 (([a0, b0, d0] : List Sp).flatMap spL) 43 3, .row (.slice A1t 3 c1t) 3 (([a1, b1, d1] : List Sp).flatMap spL) 43 3, .row (.slice A2t 3 c2t) 3 (([a2, b2, d2] : List Sp).flatMap spL) 43 3, .blk g4 #[vI 281474976710656, vI 3, vQ 99, vS g11 3 3, vS g13 3 3, vS g14 3 3, vS g19 3 3, .slice As 3 cs] 32, .blk g1 #[vI 3, vQ 99, vS g11 3 3, vS g13 3 3, vS g14 3 3, vS g19 3 3, .slice As 3 cs] 30, .row (.slice As 3 cs) 3 (([⟨P0, k0, [a0, b0, d0]⟩, ⟨P1, k1, [a1, b1, d1]⟩, ⟨P2, k2, [a2, b2, d2]⟩] : List Rw).map Rw.val) 44 1, .blk g19 #[vI 7, vI 2, vI 5, vI 0, vQ 7, .bool false, vQ 18446744073709551615, vW 0, vI 300, vI 1, vI 65536, vI 1, vQ 2, .bool true, vQ 128, vW 65535, vI 65535, vI 0, vI 1, vI 2, vQ 4, .bool false, vQ 0, vW 0] 46, .blk g14 #[vI 0, vI 300, vI 0] 3, .blk g13 #[vI 1, vI 281474976710656, vI 0] 3, .blk g11 #[vI 0, vI 1, vI 0, vI 300, vI 1, vI 65536] 40, .row (.slice P0 3 k0) 3 (([a0, b0, d0] : List Sp).flatMap spL) 43 3, .row (.slice P1 3 k1) 3 (([a1, b1, d1] : List Sp).flatMap spL) 43 3, .row (.slice P2 3 k2) 3 (([a2, b2, d2] : List Sp).flatMap spL) 43 3] from HM.join hm)
   clear HF; intro a HF
   replace hgct : 3 ≤ gct := hgct
   replace hlct : 3 ≤ lct := hlct
   replace huct : 3 ≤ uct := huct
   replace htct : 3 ≤ tct := htct
   replace hsct : 3 ≤ sct := hsct
   replace hc0t : 3 ≤ c0t := hc0t
   replace hc1t : 3 ≤ c1t := hc1t
   replace hc2t : 3 ≤ c2t := hc2t
   refine fy HF HM 2 rfl rfl rfl (v := .agg #[vI 1, vI 3, vQ 99, .slice gAt 3 gct, .slice lAt 3 lct, .slice uAt 3 uct, .slice tAt 3 tct, .slice sAt 3 sct]) (Yl.build (vs := [(0, vI 1), (1, .agg #[vI 3, vQ 99, .slice gAt 3 gct, .slice lAt 3 lct, .slice uAt 3 uct, .slice tAt 3 tct, .slice sAt 3 sct])]) rfl (by kernel_rfl) (by kernel_rfl)) fun a HF => ?_
   refine fo HF 3 rfl rfl ?_
   refine qs HF HM (cs := #[vI 0, vI 0, vQ 0, .slice none 0 0, .slice none 0 0, .slice none 0 0, .slice none 0 0, .slice none 0 0]) rfl (by kernel_rfl) rfl (by decide) ?_
   clear HF HM; intro a w6 g6 HF HM
   refine fo HF 4 rfl rfl ?_
   refine e_sa HF HM 0 rfl rfl rfl rfl rfl qx rfl rfl (by simp [Value.oneCell']) ?_
   clear HM; intro w21_4 HM
   refine qb rfl ?_
   obtain ⟨gtAt, rfl⟩ := zh (HM.own (i := 4) rfl) (Nat.lt_of_le_of_lt (Nat.zero_le _) (show 0 < 3 from (by decide : 0 < 3)))
   refine wp_seq ?_
   refine zc HM [.blk g6 #[vI 1, vI 3, vQ 99, .slice gAt 3 gct, .slice lAt 3 lct, .slice uAt 3 uct, vS gtAt 3 tct, .slice sAt 3 sct] 32, .row (.slice gAt 3 gct) 3 (([⟨0, 1⟩, ⟨0, 300⟩, ⟨1, 65536⟩] : List Gr).flatMap grL) 40 2, .row (.slice lAt 3 lct) 3 (([1, 281474976710656, 0] : List Int).map I64i) 3 1, .row (.slice uAt 3 uct) 3 (([0, 300, 0] : List Int).map I64i) 3 1, .row (vS gtAt 3 tct) 3 (([⟨7, 2, 5, 0, 7, false, 18446744073709551615, 0⟩, ⟨300, 1, 65536, 1, 2, true, 128, 65535⟩, ⟨65535, 0, 1, 2, 4, false, 0, 0⟩] : List Tk).flatMap tkL) 46 8, .row (.slice sAt 3 sct) 3 (([⟨A0t, c0t, [a0, b0, d0]⟩, ⟨A1t, c1t, [a1, b1, d1]⟩, ⟨A2t, c2t, [a2, b2, d2]⟩] : List Rw).map Rw.val) 44 1, .row (.slice A0t 3 c0t) 3 (([a0, b0, d0] : List Sp).flatMap spL) 43 3, .row (.slice A1t 3 c1t) 3 (([a1, b1, d1] : List Sp).flatMap spL) 43 3, .row (.slice A2t 3 c2t) 3 (([a2, b2, d2] : List Sp).flatMap spL) 43 3, .blk g4 #[vI 281474976710656, vI 3, vQ 99, vS g11 3 3, vS g13 3 3, vS g14 3 3, vS g19 3 3, .slice As 3 cs] 32, .blk g1 #[vI 3, vQ 99, vS g11 3 3, vS g13 3 3, vS g14 3 3, vS g19 3 3, .slice As 3 cs] 30, .row (.slice As 3 cs) 3 (([⟨P0, k0, [a0, b0, d0]⟩, ⟨P1, k1, [a1, b1, d1]⟩, ⟨P2, k2, [a2, b2, d2]⟩] : List Rw).map Rw.val) 44 1, .blk g19 #[vI 7, vI 2, vI 5, vI 0, vQ 7, .bool false, vQ 18446744073709551615, vW 0, vI 300, vI 1, vI 65536, vI 1, vQ 2, .bool true, vQ 128, vW 65535, vI 65535, vI 0, vI 1, vI 2, vQ 4, .bool false, vQ 0, vW 0] 46, .blk g14 #[vI 0, vI 300, vI 0] 3, .blk g13 #[vI 1, vI 281474976710656, vI 0] 3, .blk g11 #[vI 0, vI 1, vI 0, vI 300, vI 1, vI 65536] 40, .row (.slice P0 3 k0) 3 (([a0, b0, d0] : List Sp).flatMap spL) 43 3, .row (.slice P1 3 k1) 3 (([a1, b1, d1] : List Sp).flatMap spL) 43 3, .row (.slice P2 3 k2) 3 (([a2, b2, d2] : List Sp).flatMap spL) 43 3] [0, 1, 2, 3, 4, 5, 6, 7, 8, 9, 10, 11, 12, 13, 14, 15, 16, 17, 18] [15] fun HM HS => ?_
   refine ap HF (fun _ => HS) [0, 1, 3, 4, 6, 7, 9, 10] #[true, true, false, true, true, false, true, true, false, true, true, false, false, false, false, false] [(96, vI 3), (93, vP g6 6), (90, vI 2), (89, vI 2), (87, vP g6 6)] fun a HF => ?_
   refine ay HF HS 2 rfl rfl rfl (v := vS gtAt 3 tct) (Yl.qf rfl rfl (by kernel_rfl) (fun _ h => h.cell (i := 0) rfl rfl)) fun a HF => ?_
   refine ay HF HS 5 rfl rfl rfl (v := vS gtAt 2 2) (Yl.qk7 ei_tk (j := 2) (q := 2) rfl rfl rfl rfl (by omega) (by omega)) fun a HF => ?_
   refine ay HF HS 8 rfl rfl rfl (v := vS gtAt 3 tct) (Yl.qf rfl rfl (by kernel_rfl) (fun _ h => h.cell (i := 0) rfl rfl)) fun a HF => ?_
   refine ay HF HS 11 rfl rfl rfl (v := .slice (if tct = 3 then some ⟨gtAt, 0, none⟩ else (some ⟨gtAt, 0, none⟩ : Option Addr).map (·.add (3 * 8))) (3 - 3) (tct - 3)) (Yl.sliceFrom ei_tk (j := 3) rfl rfl rfl (by omega)) fun a HF => ?_
   refine ay HF HS 12 rfl rfl rfl (v := vS gtAt 2 2) (Yl.qh8 rfl ei_tk rfl rfl (Nat.le_refl 2)) fun a HF => ?_
   refine ap HF (fun _ => HS) [13, 14] #[true, true, true, true, true, true, true, true, true, true, true, true, true, true, true, false] [(100, vP g6 6)] fun a HF => ?_
   refine qm [15] (by kernel_rfl) rfl ?_
   refine all_cons ?_ all_nil
   refine qk HF (i := 15) rfl rfl ?_
   refine q4 HF HM (i := 0) rfl rfl rfl rfl (by kernel_rfl) rfl rfl (by simp) ?_
   clear HM; intro w22_15 HM
   refine noS (by kernel_rfl) ?_
   refine qq (by kernel_rfl) ?_
   refine wp_seq (qa ?_)
   refine fy HF HM 0 rfl rfl rfl (v := .agg #[vI 3, vQ 99, vS g11 3 3, vS g13 3 3, vS g14 3 3, vS g19 3 3, .slice As 3 cs]) (Yl.qr rfl rfl si_st rfl (fun _ h => qe (h.blk (i := 10) rfl))) fun a HF => ?_
   refine fo HF 1 rfl rfl ?_
   refine e_cl HF [.agg #[vI 3, vQ 99, vS g11 3 3, vS g13 3 3, vS g14 3 3, vS g19 3 3, .slice As 3 cs]] rfl rfl (qbw (x := (⟨0, ⟨3, 99, some ⟨g11, 0, none⟩, 3, [⟨0, 1⟩, ⟨0, 300⟩, ⟨1, 65536⟩], some ⟨g13, 0, none⟩, 3, [1, 281474976710656, 0], some ⟨g14, 0, none⟩, 3, [0, 300, 0], some ⟨g19, 0, none⟩, 3, [⟨7, 2, 5, 0, 7, false, 18446744073709551615, 0⟩, ⟨300, 1, 65536, 1, 2, true, 128, 65535⟩, ⟨65535, 0, 1, 2, 4, false, 0, 0⟩], As, cs, [⟨P0, k0, [a0, b0, d0]⟩, ⟨P1, k1, [a1, b1, d1]⟩, ⟨P2, k2, [a2, b2, d2]⟩]⟩⟩ : Snm).st) rfl _ ⟨(HM.rdBlk (i := 15) (n := 3) (size := 2) rfl rfl), (HM.rdBlk (i := 14) (n := 3) (size := 1) rfl rfl), (HM.rdBlk (i := 13) (n := 3) (size := 1) rfl rfl), (HM.rdBlk (i := 12) (n := 3) (size := 8) rfl rfl), (HM.rd (i := 11) rfl), qj (HM.rd (i := 16) rfl) (HM.rd (i := 17) rfl) (HM.rd (i := 18) rfl)⟩ ⟨Nat.le_of_ble_eq_true rfl, Nat.le_of_ble_eq_true rfl, Nat.le_of_ble_eq_true rfl, Nat.le_of_ble_eq_true rfl, Nat.le_of_ble_eq_true rfl, qj (Nat.le_of_ble_eq_true rfl) (Nat.le_of_ble_eq_true rfl) (Nat.le_of_ble_eq_true rfl)⟩) ?_
   rintro _ w102 ⟨gAu, lAu, uAu, tAu, sAu, A0u, A1u, A2u, gcu, lcu, ucu, tcu, scu, c0u, c1u, c2u, rfl, hgcu, hlcu, hucu, htcu, hscu, hc0u, hc1u, hc2u, hm⟩
   refine ⟨_, rfl, ?_⟩
   replace HM := (show Mem w _ [.row (.slice gAu 3 gcu) 3 (([⟨0, 1⟩, ⟨0, 300⟩, ⟨1, 65536⟩] : List Gr).flatMap grL) 40 2, .row (.slice lAu 3 lcu) 3 (([1, 281474976710656, 0] : List Int).map I64i) 3 1, .row (.slice uAu 3 ucu) 3 (([0, 300, 0] : List Int).map I64i) 3 1, .row (.slice tAu 3 tcu) 3 (([⟨7, 2, 5, 0, 7, false, 18446744073709551615, 0⟩, ⟨300, 1, 65536, 1, 2, true, 128, 65535⟩, ⟨65535, 0, 1, 2, 4, false, 0, 0⟩] : List Tk).flatMap tkL) 46 8, .row (.slice sAu 3 scu) 3 (([⟨A0u, c0u, [a0, b0, d0]⟩, ⟨A1u, c1u, [a1, b1, d1]⟩, ⟨A2u, c2u, [a2, b2, d2]⟩] : List Rw).map Rw.val) 44 1, .row (.slice A0u 3 c0u) 3 (([a0, b0, d0] : List Sp).flatMap spL) 43 3, .row (.slice A1u 3 c1u) 3 (([a1, b1, d1] : List Sp).flatMap spL) 43 3, .row (.slice A2u 3 c2u) 3 (([a2, b2, d2] : List Sp).flatMap spL) 43 3, .blk g6 #[vI 1, vI 3, vQ 99, .slice gAt 3 gct, .slice lAt 3 lct, .slice uAt 3 uct, vS gtAt 2 2, .slice sAt 3 sct] 32, .row (.slice gAt 3 gct) 3 (([⟨0, 1⟩, ⟨0, 300⟩, ⟨1, 65536⟩] : List Gr).flatMap grL) 40 2, .row (.slice lAt 3 lct) 3 (([1, 281474976710656, 0] : List Int).map I64i) 3 1, .row (.slice uAt 3 uct) 3 (([0, 300, 0] : List Int).map I64i) 3 1, .row (vS gtAt 3 tct) 3 (([⟨7, 2, 5, 0, 7, false, 18446744073709551615, 0⟩, ⟨300, 1, 65536, 1, 2, true, 128, 65535⟩, ⟨65535, 0, 1, 2, 4, false, 0, 0⟩] : List Tk).flatMap tkL) 46 8, .row (.slice sAt 3 sct) 3 (([⟨A0t, c0t, [a0, b0, d0]⟩, ⟨A1t, c1t, [a1, b1, d1]⟩, ⟨A2t, c2t, [a2, b2, d2]⟩] : List Rw).map Rw.val) 44 1, .row (.slice A0t 3 c0t) 3 (([a0, b0, d0] : List Sp).flatMap spL) 43 3, .row (.slice A1t 3 c1t) 3 (([a1, b1, d1] : List Sp).flatMap spL) 43 3, .row (.slice A2t 3 c2t) 3 (([a2, b2, d2] : List Sp).flatMap spL) 43 3, .blk g4 #[vI 281474976710656, vI 3, vQ 99, vS g11 3 3, vS g13 3 3, vS g14 3 3, vS g19 3 3, .slice As 3 cs] 32, .blk g1 #[vI 3, vQ 99, vS g11 3 3, vS g13 3 3, vS g14 3 3, vS g19 3 3, .slice As 3 cs] 30, .row (.slice As 3 cs) 3 (([⟨P0, k0, [a0, b0, d0]⟩, ⟨P1, k1, [a1, b1, d1]⟩, ⟨P2, k2, [a2, b2, d2]⟩] : List Rw).map Rw.val) 44 1, .blk g19 #[vI 7, vI 2, vI 5, vI 0, vQ 7, .bool false, vQ 18446744073709551615, vW 0, vI 300, vI 1, vI 65536, vI 1, vQ 2, .bool true, vQ 128, vW 65535, vI 65535, vI 0, vI 1, vI 2, vQ 4, .bool false, vQ 0, vW 0] 46, .blk g14 #[vI 0, vI 300, vI 0] 3, .blk g13 #[vI 1, vI 281474976710656, vI 0] 3, .blk g11 #[vI 0, vI 1, vI 0, vI 300, vI 1, vI 65536] 40, .row (.slice P0 3 k0) 3 (([a0, b0, d0] : List Sp).flatMap spL) 43 3, .row (.slice P1 3 k1) 3 (([a1, b1, d1] : List Sp).flatMap spL) 43 3, .row (.slice P2 3 k2) 3 (([a2, b2, d2] : List Sp).flatMap spL) 43 3] from HM.join hm)
   clear HF; intro a HF
   replace hgcu : 3 ≤ gcu := hgcu
   replace hlcu : 3 ≤ lcu := hlcu
   replace hucu : 3 ≤ ucu := hucu
   replace htcu : 3 ≤ tcu := htcu
   replace hscu : 3 ≤ scu := hscu
   replace hc0u : 3 ≤ c0u := hc0u
   replace hc1u : 3 ≤ c1u := hc1u
   replace hc2u : 3 ≤ c2u := hc2u
   refine fy HF HM 2 rfl rfl rfl (v := .agg #[vI 1, vI 3, vQ 99, .slice gAu 3 gcu, .slice lAu 3 lcu, .slice uAu 3 ucu, .slice tAu 3 tcu, .slice sAu 3 scu]) (Yl.build (vs := [(0, vI 1), (1, .agg #[vI 3, vQ 99, .slice gAu 3 gcu, .slice lAu 3 lcu, .slice uAu 3 ucu, .slice tAu 3 tcu, .slice sAu 3 scu])]) rfl (by kernel_rfl) (by kernel_rfl)) fun a HF => ?_
   refine fo HF 3 rfl rfl ?_
   refine qs HF HM (cs := #[vI 0, vI 0, vQ 0, .slice none 0 0, .slice none 0 0, .slice none 0 0, .slice none 0 0, .slice none 0 0]) rfl (by kernel_rfl) rfl (by decide) ?_
   clear HF HM; intro a w7 g7 HF HM
   refine fo HF 4 rfl rfl ?_
   refine e_sa HF HM 0 rfl rfl rfl rfl rfl qx rfl rfl (by simp [Value.oneCell']) ?_
   clear HM; intro w23_4 HM
   refine qb rfl (wp_seq (qa ?_))
   refine fp HF 2 0 [(105, vP g7 6)] fun a HF => ?_
   refine fy HF HM 2 rfl rfl rfl (v := .slice tAu 3 tcu) (Yl.qf rfl rfl (by kernel_rfl) (fun _ h => h.cell (i := 0) rfl rfl)) fun a HF => ?_
   refine fp HF 3 3 [(109, vI 0), (107, vI 2)] fun a HF => ?_
   obtain ⟨gtAu, rfl⟩ := zh (HM.own (i := 4) rfl) (Nat.lt_of_le_of_lt (Nat.zero_le _) (show 2 < 3 from by decide))
   refine fy HF HM 6 rfl rfl rfl (v := vP gtAu 16) (Yl.indexAddr (ad := ⟨gtAu, 0, none⟩) (y := 2) (sz := 8) rfl rfl rfl (by decide) (by kernel_rfl)) fun a HF => ?_
   refine fp HF 1 7 [(111, vP gtAu 17)] fun a HF => ?_
   refine fo HF 8 rfl rfl ?_
   refine zu HF HM (i := 4) rfl rfl rfl rfl (by kernel_rfl) rfl rfl (Nat.le_of_ble_eq_true rfl) ?_
   clear HM; intro w24_8 HM
   replace HM := HM.asRow (i := 4) (ys := ([⟨7, 2, 5, 0, 7, false, 18446744073709551615, 0⟩, ⟨300, 1, 65536, 1, 2, true, 128, 65535⟩, ⟨65535, 0, 1, 2, 4, false, 0, 0⟩] : List Tk).flatMap tkL) rfl (rfl)
   refine qb rfl (wp_seq (qa ?_))
   refine fp HF 2 0 [(113, vP g7 7)] fun a HF => ?_
   refine fy HF HM 2 rfl rfl rfl (v := .slice sAu 3 scu) (Yl.qf rfl rfl (by kernel_rfl) (fun _ h => h.cell (i := 0) rfl rfl)) fun a HF => ?_
   obtain ⟨gsAu, rfl⟩ := zh (HM.own (i := 5) rfl) (Nat.lt_of_le_of_lt (Nat.zero_le _) (show 2 < 3 from by omega))
   refine fy HF HM 3 rfl rfl rfl (v := vP gsAu 2) (Yl.indexAddr (ad := ⟨gsAu, 0, none⟩) (y := 2) (sz := 1) rfl rfl rfl (by omega) (by kernel_rfl)) fun a HF => ?_
   refine fy HF HM 4 rfl rfl rfl (v := .slice ((⟨A2u, c2u, [a2, b2, d2]⟩ : Rw).A) ((⟨A2u, c2u, [a2, b2, d2]⟩ : Rw).l.length) ((⟨A2u, c2u, [a2, b2, d2]⟩ : Rw).c)) (Yl.qf rfl rfl (by kernel_rfl) (fun _ h => h.qad (i := 5) rfl (k := 2) (qz (F := Rw.val) (k := 2) (x := (⟨A2u, c2u, [a2, b2, d2]⟩ : Rw)) (show ([⟨A0u, c0u, [a0, b0, d0]⟩, ⟨A1u, c1u, [a1, b1, d1]⟩, ⟨A2u, c2u, [a2, b2, d2]⟩] : List Rw)[2]? = some _ from rfl)))) fun a HF => ?_
   replace HF := HF.sp 116 (.slice A2u 3 c2u) rfl (rfl)
   refine fp HF 1 5 [(117, vI 2)] fun a HF => ?_
   obtain ⟨gA2u, rfl⟩ := zh (HM.own (i := 8) rfl) (Nat.lt_of_le_of_lt (Nat.zero_le _) (show 2 < 3 from by decide))
   refine fy HF HM 6 rfl rfl rfl (v := vP gA2u 6) (Yl.indexAddr (ad := ⟨gA2u, 0, none⟩) (y := 2) (sz := 3) rfl rfl rfl (by decide) (by kernel_rfl)) fun a HF => ?_
   refine fp HF 1 7 [(119, vP gA2u 8)] fun a HF => ?_
   refine fo HF 8 rfl rfl ?_
   refine zu HF HM (i := 8) rfl rfl rfl rfl (by kernel_rfl) rfl rfl (Nat.le_of_ble_eq_true rfl) ?_
   clear HM; intro w25_8 HM
   replace HM := HM.asRow (i := 8) (ys := ([a2, b2, ⟨d2.v, d2.r, 0⟩] : List Sp).flatMap spL) rfl (rfl)
   refine qb rfl (wp_seq (qa ?_))
   refine fy HF HM 0 rfl rfl rfl (v := .agg #[vI 1, vI 3, vQ 99, .slice gAt 3 gct, .slice lAt 3 lct, .slice uAt 3 uct, vS gtAt 2 2, .slice sAt 3 sct]) (Yl.qr rfl rfl qx rfl (fun _ h => qe (h.blk (i := 9) rfl))) fun a HF => ?_
   refine fy HF HM 1 rfl rfl rfl (v := .agg #[vI 281474976710656, vI 3, vQ 99, vS g11 3 3, vS g13 3 3, vS g14 3 3, vS g19 3 3, .slice As 3 cs]) (Yl.qr rfl rfl qx rfl (fun _ h => qe (h.blk (i := 18) rfl))) fun a HF => ?_
   refine fo HF 2 rfl rfl ?_
   refine e_is HF HM [.agg #[vI 1, vI 3, vQ 99, .slice gAt 3 gct, .slice lAt 3 lct, .slice uAt 3 uct, vS gtAt 2 2, .slice sAt 3 sct], .agg #[vI 281474976710656, vI 3, vQ 99, vS g11 3 3, vS g13 3 3, vS g14 3 3, vS g19 3 3, .slice As 3 cs]] (.bool true) rfl rfl (z3 (⟨1, ⟨3, 99, gAt, gct, [⟨0, 1⟩, ⟨0, 300⟩, ⟨1, 65536⟩], lAt, lct, [1, 281474976710656, 0], uAt, uct, [0, 300, 0], some ⟨gtAt, 0, none⟩, 2, [⟨7, 2, 5, 0, 7, false, 18446744073709551615, 0⟩, ⟨300, 1, 65536, 1, 2, true, 128, 65535⟩], sAt, sct, [⟨A0t, c0t, [a0, b0, d0]⟩, ⟨A1t, c1t, [a1, b1, d1]⟩, ⟨A2t, c2t, [a2, b2, d2]⟩]⟩⟩ : Snm) (⟨281474976710656, ⟨3, 99, some ⟨g11, 0, none⟩, 3, [⟨0, 1⟩, ⟨0, 300⟩, ⟨1, 65536⟩], some ⟨g13, 0, none⟩, 3, [1, 281474976710656, 0], some ⟨g14, 0, none⟩, 3, [0, 300, 0], some ⟨g19, 0, none⟩, 3, [⟨7, 2, 5, 0, 7, false, 18446744073709551615, 0⟩, ⟨300, 1, 65536, 1, 2, true, 128, 65535⟩, ⟨65535, 0, 1, 2, 4, false, 0, 0⟩], As, cs, [⟨P0, k0, [a0, b0, d0]⟩, ⟨P1, k1, [a1, b1, d1]⟩, ⟨P2, k2, [a2, b2, d2]⟩]⟩⟩ : Snm) ⟨(show I64 3 from (show I64 (3) by unfold I64; decide)), (show 99 < 18446744073709551616 from (show 99 < 18446744073709551616 by decide)), qj ⟨(show I64 (0) by unfold I64; decide), (show I64 (1) by unfold I64; decide)⟩ ⟨(show I64 (0) by unfold I64; decide), (show I64 (300) by unfold I64; decide)⟩ ⟨(show I64 (1) by unfold I64; decide), (show I64 (65536) by unfold I64; decide)⟩, qj (show I64 (1) by unfold I64; decide) (show I64 (281474976710656) by unfold I64; decide) (show I64 (0) by unfold I64; decide), qj (show I64 (0) by unfold I64; decide) (show I64 (300) by unfold I64; decide) (show I64 (0) by unfold I64; decide), qac ⟨(show I64 (7) by unfold I64; decide), (show I64 (2) by unfold I64; decide), (show I64 (5) by unfold I64; decide), (show I64 (0) by unfold I64; decide), (show 7 < 18446744073709551616 by decide), (show 18446744073709551615 < 18446744073709551616 by decide), (show 0 < 4294967296 by decide)⟩ ⟨(show I64 (300) by unfold I64; decide), (show I64 (1) by unfold I64; decide), (show I64 (65536) by unfold I64; decide), (show I64 (1) by unfold I64; decide), (show 2 < 18446744073709551616 by decide), (show 128 < 18446744073709551616 by decide), (show 65535 < 4294967296 by decide)⟩, qj (qj ha0 hb0 hd0) (qj ha1 hb1 hd1) (qj ha2 hb2 hd2)⟩ ⟨Nat.le_of_ble_eq_true rfl, Nat.le_of_ble_eq_true rfl, Nat.le_of_ble_eq_true rfl, Nat.le_of_ble_eq_true rfl, Nat.le_of_ble_eq_true rfl, qj (Nat.le_of_ble_eq_true rfl) (Nat.le_of_ble_eq_true rfl) (Nat.le_of_ble_eq_true rfl)⟩ ⟨hgct, hlct, huct, (Nat.le_of_ble_eq_true rfl), hsct, qj hc0t hc1t hc2t⟩ ⟨Nat.le_of_ble_eq_true rfl, Nat.le_of_ble_eq_true rfl, Nat.le_of_ble_eq_true rfl, Nat.le_of_ble_eq_true rfl, Nat.le_of_ble_eq_true rfl, qj (Nat.le_of_ble_eq_true rfl) (Nat.le_of_ble_eq_true rfl) (Nat.le_of_ble_eq_true rfl)⟩ B _ (hL.mem HM hB) (HM.le hB) ⟨(HM.rd (i := 10) rfl), (HM.rd (i := 11) rfl), (HM.rd (i := 12) rfl), (Rd.qs2 zf (l := [⟨7, 2, 5, 0, 7, false, 18446744073709551615, 0⟩, ⟨300, 1, 65536, 1, 2, true, 128, 65535⟩, ⟨65535, 0, 1, 2, 4, false, 0, 0⟩]) (HM.rd (i := 13) rfl) (k := 2) (Nat.le_of_ble_eq_true rfl)), (HM.rd (i := 14) rfl), qj (HM.rd (i := 15) rfl) (HM.rd (i := 16) rfl) (HM.rd (i := 17) rfl)⟩ ⟨(HM.rdBlk (i := 24) (n := 3) (size := 2) rfl rfl), (HM.rdBlk (i := 23) (n := 3) (size := 1) rfl rfl), (HM.rdBlk (i := 22) (n := 3) (size := 1) rfl rfl), (HM.rdBlk (i := 21) (n := 3) (size := 8) rfl rfl), (HM.rd (i := 20) rfl), qj (HM.rd (i := 25) rfl) (HM.rd (i := 26) rfl) (HM.rd (i := 27) rfl)⟩) fun w122 hbw HM a HF => ?_
   refine fp HF 2 3 [(124, .bool false)] fun a HF => ?_
   refine fy HF HM 5 rfl rfl rfl (v := .agg #[vI 1, vI 3, vQ 99, .slice gAu 3 gcu, .slice lAu 3 lcu, .slice uAu 3 ucu, vS gtAu 3 tcu, vS gsAu 3 scu]) (Yl.qr rfl rfl qx rfl (fun _ h => qe (h.blk (i := 0) rfl))) fun a HF => ?_
   refine fy HF HM 6 rfl rfl rfl (v := .agg #[vI 1, vI 3, vQ 99, .slice gAt 3 gct, .slice lAt 3 lct, .slice uAt 3 uct, vS gtAt 2 2, .slice sAt 3 sct]) (Yl.qr rfl rfl qx rfl (fun _ h => qe (h.blk (i := 9) rfl))) fun a HF => ?_
   refine fo HF 7 rfl rfl ?_
   refine e_is HF HM [.agg #[vI 1, vI 3, vQ 99, .slice gAu 3 gcu, .slice lAu 3 lcu, .slice uAu 3 ucu, vS gtAu 3 tcu, vS gsAu 3 scu], .agg #[vI 1, vI 3, vQ 99, .slice gAt 3 gct, .slice lAt 3 lct, .slice uAt 3 uct, vS gtAt 2 2, .slice sAt 3 sct]] (.bool true) rfl rfl (z3 (⟨1, ⟨3, 99, gAu, gcu, [⟨0, 1⟩, ⟨0, 300⟩, ⟨1, 65536⟩], lAu, lcu, [1, 281474976710656, 0], uAu, ucu, [0, 300, 0], some ⟨gtAu, 0, none⟩, tcu, [⟨7, 2, 5, 0, 7, false, 18446744073709551615, 0⟩, ⟨300, 1, 65536, 1, 2, true, 128, 65535⟩, ⟨65535, 0, 1, 2, 4, false, 0, 0⟩], some ⟨gsAu, 0, none⟩, scu, [⟨A0u, c0u, [a0, b0, d0]⟩, ⟨A1u, c1u, [a1, b1, d1]⟩, ⟨some ⟨gA2u, 0, none⟩, c2u, [a2, b2, ⟨d2.v, d2.r, 0⟩]⟩]⟩⟩ : Snm) (⟨1, ⟨3, 99, gAt, gct, [⟨0, 1⟩, ⟨0, 300⟩, ⟨1, 65536⟩], lAt, lct, [1, 281474976710656, 0], uAt, uct, [0, 300, 0], some ⟨gtAt, 0, none⟩, 2, [⟨7, 2, 5, 0, 7, false, 18446744073709551615, 0⟩, ⟨300, 1, 65536, 1, 2, true, 128, 65535⟩], sAt, sct, [⟨A0t, c0t, [a0, b0, d0]⟩, ⟨A1t, c1t, [a1, b1, d1]⟩, ⟨A2t, c2t, [a2, b2, d2]⟩]⟩⟩ : Snm) ⟨(show I64 3 from (show I64 (3) by unfold I64; decide)), (show 99 < 18446744073709551616 from (show 99 < 18446744073709551616 by decide)), qj ⟨(show I64 (0) by unfold I64; decide), (show I64 (1) by unfold I64; decide)⟩ ⟨(show I64 (0) by unfold I64; decide), (show I64 (300) by unfold I64; decide)⟩ ⟨(show I64 (1) by unfold I64; decide), (show I64 (65536) by unfold I64; decide)⟩, qj (show I64 (1) by unfold I64; decide) (show I64 (281474976710656) by unfold I64; decide) (show I64 (0) by unfold I64; decide), qj (show I64 (0) by unfold I64; decide) (show I64 (300) by unfold I64; decide) (show I64 (0) by unfold I64; decide), qj ⟨(show I64 (7) by unfold I64; decide), (show I64 (2) by unfold I64; decide), (show I64 (5) by unfold I64; decide), (show I64 (0) by unfold I64; decide), (show 7 < 18446744073709551616 by decide), (show 18446744073709551615 < 18446744073709551616 by decide), (show 0 < 4294967296 by decide)⟩ ⟨(show I64 (300) by unfold I64; decide), (show I64 (1) by unfold I64; decide), (show I64 (65536) by unfold I64; decide), (show I64 (1) by unfold I64; decide), (show 2 < 18446744073709551616 by decide), (show 128 < 18446744073709551616 by decide), (show 65535 < 4294967296 by decide)⟩ ⟨(show I64 (65535) by unfold I64; decide), (show I64 (0) by unfold I64; decide), (show I64 (1) by unfold I64; decide), (show I64 (2) by unfold I64; decide), (show 4 < 18446744073709551616 by decide), (show 0 < 18446744073709551616 by decide), (show 0 < 4294967296 by decide)⟩, qj (qj ha0 hb0 hd0) (qj ha1 hb1 hd1) (qj ha2 hb2 (qeg hd2))⟩ ⟨Nat.le_of_ble_eq_true rfl, Nat.le_of_ble_eq_true rfl, Nat.le_of_ble_eq_true rfl, Nat.le_of_ble_eq_true rfl, Nat.le_of_ble_eq_true rfl, qj (Nat.le_of_ble_eq_true rfl) (Nat.le_of_ble_eq_true rfl) (Nat.le_of_ble_eq_true rfl)⟩ ⟨hgcu, hlcu, hucu, htcu, hscu, qj hc0u hc1u hc2u⟩ ⟨Nat.le_of_ble_eq_true rfl, Nat.le_of_ble_eq_true rfl, Nat.le_of_ble_eq_true rfl, Nat.le_of_ble_eq_true rfl, Nat.le_of_ble_eq_true rfl, qj (Nat.le_of_ble_eq_true rfl) (Nat.le_of_ble_eq_true rfl) (Nat.le_of_ble_eq_true rfl)⟩ B _ (hL.mem HM hB) (HM.le hB) ⟨(HM.rd (i := 1) rfl), (HM.rd (i := 2) rfl), (HM.rd (i := 3) rfl), (HM.rd (i := 4) rfl), (HM.rd (i := 5) rfl), qj (HM.rd (i := 6) rfl) (HM.rd (i := 7) rfl) (HM.rd (i := 8) rfl)⟩ ⟨(HM.rd (i := 10) rfl), (HM.rd (i := 11) rfl), (HM.rd (i := 12) rfl), (Rd.qs2 zf (l := [⟨7, 2, 5, 0, 7, false, 18446744073709551615, 0⟩, ⟨300, 1, 65536, 1, 2, true, 128, 65535⟩, ⟨65535, 0, 1, 2, 4, false, 0, 0⟩]) (HM.rd (i := 13) rfl) (k := 2) (Nat.le_of_ble_eq_true rfl)), (HM.rd (i := 14) rfl), qj (HM.rd (i := 15) rfl) (HM.rd (i := 16) rfl) (HM.rd (i := 17) rfl)⟩) fun w127 hbw HM a HF => ?_
   refine fp HF 2 8 [(129, .bool false)] fun a HF => ?_
   refine qb rfl (qc HF rfl (wp_skip (qa ?_)))
   refine fp HF 2 0 [(80, vI 3)] fun a HF => ?_
   refine qb rfl ?_
   replace HF := HF.to [(80, vI 3), (129, .bool false), (7, vP g7 0), (6, vP g6 0), (5, vI 2), (81, .bool true), (79, vI 3), (4, vP g4 0), (1, vP g1 0)]
   exact ⟨_, (by omega), 3, by omega, rfl, HF.sub (by kernel_rfl), HM.picks [18, 19, 20, 21, 22, 23, 24, 25, 26, 27] (by decide) rfl⟩
 have hd81 := of_decide_eq_false hb81
 refine qc HF rfl (wp_exit (wp_seq (qa ?_)))
 refine fp HF 1 0 [(0, .bool true)] fun a HF => ?_
 refine qb rfl (wp_ret ?_)
 exact ret1 rfl HF (.tmp HF rfl) (⟨rfl, HM.below⟩)
theorem qrc {a b c d e f : Nat} (w : World) (hx : StRd w (exB a b c d e f).st) : Calls Tryz.prog 11 #[.agg (exB a b c d e f).st.cells] w fun r w' => ∃ (gA lA uA tA sA rA : Option Addr) (gc lc uc tc sc rc : Nat),
  r = .returned (.agg #[.int .i64 1, .int .u64 0, .slice gA 1 gc, .slice lA 1 lc, .slice uA 1 uc, .slice tA 1 tc, .slice sA 1 sc]) ∧ 1 ≤ gc ∧ 1 ≤ lc ∧ 1 ≤ uc ∧ 1 ≤ tc ∧ 1 ≤ sc ∧ 1 ≤ rc ∧
  Mem w w' [.row (.slice gA 1 gc) 1 ([⟨0, 1⟩].flatMap grL) 40 2, .row (.slice lA 1 lc) 1 ([3].map I64i) 3 1, .row (.slice uA 1 uc) 1 ([5].map I64i) 3 1, .row (.slice tA 1 tc) 1 ([⟨5, 0, 1024, 0, 1, true, 3072, 0⟩].flatMap tkL) 46 8, .row (.slice sA 1 sc) 1 ([(⟨rA, rc, [⟨0, 0, 3072⟩]⟩ : Rw)].map Rw.val) 44 1, .row (.slice rA 1 rc) 1 ([⟨0, 0, 3072⟩].flatMap spL) 43 3] := by
 refine (qcd (exB a b c d e f).st w hx qct).mono fun r w' h => ?_
 obtain ⟨gA, lA, uA, tA, sA, gc, lc, uc, tc, sc, q, hr, hq, h1, h2, h3, h4, h5, h6, hm⟩ := qjt h
 obtain ⟨rA, rc, rfl⟩ := qsz hq
 exact ⟨gA, lA, uA, tA, sA, rA, gc, lc, uc, tc, sc, rc, hr, h1, h2, h3, h4, h5, h6 _ (List.mem_singleton_self _), hm⟩
theorem qf8 (B : Nat) (w : World) (hL : LaidX B w) (hB : B ≤ w.heap.size) :
    Calls Tryz.prog 4 #[] w (Is w (.bool true)) := by
 refine qg (vs := []) Tryz.func4 rfl rfl (by kernel_rfl) (σ0 := []) rfl ?_
 intro a HF
 have HM := Mem.start w
 refine wp_seq (qa ?_)
 refine fp HF 1 0 [(0, .bool false)] fun a HF => ?_
 refine qb rfl (wp_seq (wp_seq (qa ?_)))
 refine fo HF 0 rfl rfl ?_
 refine qt HF HM (vs := [(0, vI (-9223372036854775808)), (1, vI (-1)), (2, vI 0), (3, vI 1), (4, vI 2), (5, vI 5), (6, vI 127), (7, vI 128), (8, vI 1023), (9, vI 1024), (10, vI 3071), (11, vI 3072), (12, vI 3073), (13, vI 65535), (14, vI 65536), (15, vI 65537), (16, vI 1099511627776), (17, vI 1099511627777), (18, vI 281474976710656), (19, vI 281474976710657), (20, vI 281474976710658), (21, vI 9223372036854775807)]) (cs := #[vI (-9223372036854775808), vI (-1), vI 0, vI 1, vI 2, vI 5, vI 127, vI 128, vI 1023, vI 1024, vI 3071, vI 3072, vI 3073, vI 65535, vI 65536, vI 65537, vI 1099511627776, vI 1099511627777, vI 281474976710656, vI 281474976710657, vI 281474976710658, vI 9223372036854775807]) rfl qa9 (by decide) rfl (by kernel_rfl) rfl (by decide) ?_
 clear HF HM; intro a w14 g14 HF HM
 refine fy HF HM 1 rfl rfl rfl (v := vI 22) (Yl.len rfl rfl (by kernel_rfl)) fun a HF => ?_
 refine fp HF 1 2 [(16, vI 0)] fun a HF => ?_
 refine qb rfl ?_
 replace HM := (HM.blkRow (i := 0) (n := 22) (size := 1) rfl rfl (by decide)).asRow (i := 0) (ys := qa8.map I64i) rfl (by kernel_rfl)
 refine wp_block ?_
 refine qo (fun mS aS wS => ∃ (i : Nat), (i ≤ 22) ∧ mS = 22 - i ∧ Fr aS 353 [] [(16, vI i), (15, vI 22), (14, vS g14 22 22)] ∧ Mem w wS [.row (vS g14 22 22) 22 (qa8.map I64i) 3 1]) (m := 22 - 0) ⟨0, Nat.zero_le _, rfl, HF.sub (by kernel_rfl), HM.picks [0] (by decide) rfl⟩ ?_
 clear HF HM; rintro mS a w_ ⟨i, hi, rfl, HF, HM⟩
 refine wp_seq (qa ?_)
 refine fp HF 1 0 [(17, .bool (decide ((i : Int) < (22 : Int))))] fun a HF => ?_
 refine qb rfl (wp_seq ?_)
 rcases HF.tf 17 rfl with ⟨hb17, HF⟩ | ⟨hb17, HF⟩
 ·
  have hd17 := of_decide_eq_true hb17
  have hi17 : i < 22 := by omega
  obtain ⟨n, hnn⟩ : ∃ z, qa8.getD i 0 = z := ⟨_, rfl⟩
  have hn : I64 n := by rw [← hnn]; exact qq9 _ (q5 0 (show i < qa8.length from hi17))
  have htu := qam n; have htw := qmn n
  refine qd HF rfl (wp_skip (wp_seq (wp_block (wp_seq (qa ?_)))))
  refine fy HF HM 0 rfl rfl rfl (v := vP g14 (i * 1)) (Yl.ix0 g14 i 1 rfl rfl rfl) fun a HF => ?_
  refine fy HF HM 1 rfl rfl rfl (v := vI (qa8.getD i 0)) (Yl.qf rfl rfl (by kernel_rfl) (fun _ h => h.qad (i := 0) rfl (k := i) (qz (F := I64i) (k := i) (x := (qa8.getD i 0)) ((getD_at 0 (show i < qa8.length from hi17)))))) fun a HF => ?_
  replace HF := HF.sp 19 (vI n) rfl (by rw [hnn])
  refine fp HF 1 2 [(2, vI n)] fun a HF => ?_
  refine qb rfl (wp_seq (qa ?_))
  refine fp HF 1 0 [(20, vI 0)] fun a HF => ?_
  refine qb rfl (wp_block ?_)
  refine qo (fun mS aS wS => ∃ (k : Nat), (k ≤ 16) ∧ mS = 16 - k ∧ Fr aS 353 [] [(20, vI k), (2, vI n), (16, vI i), (15, vI 22), (14, vS g14 22 22)] ∧ Mem w wS [.row (vS g14 22 22) 22 (qa8.map I64i) 3 1]) (m := 16 - 0) ⟨0, Nat.zero_le _, rfl, HF.sub (by kernel_rfl), HM.picks [0] (by decide) rfl⟩ ?_
  clear HF HM; rintro mS a w_ ⟨k, hk, rfl, HF, HM⟩
  refine wp_seq (qa ?_)
  refine fp HF 1 0 [(21, .bool (decide ((k : Int) < (16 : Int))))] fun a HF => ?_
  refine qb rfl (wp_seq ?_)
  rcases HF.tf 21 rfl with ⟨hb21, HF⟩ | ⟨hb21, HF⟩
  ·
   have hd21 := of_decide_eq_true hb21
   refine qd HF rfl (wp_skip (wp_seq (wp_block (wp_seq (qa ?_)))))
   refine fp HF 2 0 [(3, vI k)] fun a HF => ?_
   refine qb rfl (wp_seq (qa ?_))
   refine fo HF 0 rfl rfl ?_
   refine e_cl HF [] rfl rfl (qce _) ?_
   rintro _ w24 ⟨e6, e9, e10, e12, e13, e17, e18, e20, e22, e23, rfl, hm⟩
   refine ⟨_, rfl, ?_⟩
   replace HM := HM.join hm
   clear HF; intro a HF
   refine fp HF 3 1 [(26, .agg ((exB e6 e17 e18 e20 e22 e23).cells)), (25, .agg ((exA e6 e9 e10 e12 e13).cells))] fun a HF => ?_
   refine fo HF 4 rfl rfl ?_
   refine qs HF HM (cs := #[vI 0, vI 0, vQ 0, .slice none 0 0, .slice none 0 0, .slice none 0 0, .slice none 0 0, .slice none 0 0]) rfl (by kernel_rfl) rfl (by decide) ?_
   clear HF HM; intro a w4 g4 HF HM
   refine fo HF 5 rfl rfl ?_
   refine qs HF HM (cs := #[vI 0, vI 0, vQ 0, .slice none 0 0, .slice none 0 0, .slice none 0 0, .slice none 0 0, .slice none 0 0]) rfl (by kernel_rfl) rfl (by decide) ?_
   clear HF HM; intro a w5 g5 HF HM
   refine fo HF 6 rfl rfl ?_
   refine e_sa HF HM 1 rfl rfl rfl rfl rfl qx rfl rfl (qa6 (exA e6 e9 e10 e12 e13)) ?_
   clear HM; intro w7_6 HM
   refine fo HF 7 rfl rfl ?_
   refine e_sa HF HM 0 rfl rfl rfl rfl rfl qx rfl rfl (qa6 (exB e6 e17 e18 e20 e22 e23)) ?_
   clear HM; intro w7_7 HM
   refine qb rfl (wp_seq (qa ?_))
   refine fp HF 2 0 [(6, vP g5 1)] fun a HF => ?_
   refine qb rfl (wp_seq (wp_seq (qa ?_)))
   refine fp HF 1 0 [(28, vI k)] fun a HF => ?_
   refine qb rfl ?_
   refine qq8 (fun aS wS => ∃ (S : Snm) (T : List Fact), (SnGood T S) ∧ Fr aS 353 [] [(5, vP g5 0), (3, vI k), (20, vI k), (2, vI n), (16, vI i), (15, vI 22), (14, vS g14 22 22)] ∧ Mem w wS (.blk g5 S.cells 32 :: .row (vS g14 22 22) 22 (qa8.map I64i) 3 1 :: T)) ?_ ?_
   ·
    refine wp_block (wp_seq (qa ?_))
    refine fp HF 2 0 [(40, .bool ((k : Int) == (0 : Int)))] fun a HF => ?_
    refine qb rfl ?_
    rcases HF.tf 40 rfl with ⟨hb40, HF⟩ | ⟨hb40, HF⟩
    ·
     have hd40 := eq_of_beq hb40
     refine qd HF rfl (qa ?_)
     refine fp HF 2 0 [(43, vP g5 0), (42, vI n)] fun a HF => ?_
     refine fo HF 2 rfl rfl ?_
     refine q4 HF HM (i := 0) rfl rfl rfl rfl (by kernel_rfl) rfl rfl (by simp [Snm.cells]) ?_
     clear HM; intro w12_2 HM
     refine qb rfl ?_
     exact ⟨(⟨n, ⟨1, 0, some ⟨e6, 0, none⟩, 1, [⟨0, 1⟩], some ⟨e17, 0, none⟩, 1, [3], some ⟨e18, 0, none⟩, 1, [5], some ⟨e20, 0, none⟩, 1, [⟨5, 0, 1024, 0, 1, true, 3072, 0⟩], some ⟨e23, 0, none⟩, 1, [⟨some ⟨e22, 0, none⟩, 1, [⟨0, 0, 3072⟩]⟩]⟩⟩ : Snm), [.blk e6 #[vI 0, vI 1] 40, .blk e17 #[vI 3] 3, .blk e18 #[vI 5] 3, .blk e20 #[vI 5, vI 0, vI 1024, vI 0, vQ 1, .bool true, vQ 3072, vW 0] 46, .blk e23 #[vS e22 1 1] 44, .blk e22 #[vQ 0, vW 0, vQ 3072] 43], ⟨⟨(show I64 1 from (show I64 (1) by unfold I64; decide)), (show 0 < 18446744073709551616 from (show 0 < 18446744073709551616 by decide)), qh ⟨(show I64 (0) by unfold I64; decide), (show I64 (1) by unfold I64; decide)⟩, qh (show I64 (3) by unfold I64; decide), qh (show I64 (5) by unfold I64; decide), qh ⟨(show I64 (5) by unfold I64; decide), (show I64 (0) by unfold I64; decide), (show I64 (1024) by unfold I64; decide), (show I64 (0) by unfold I64; decide), (show 1 < 18446744073709551616 by decide), (show 3072 < 18446744073709551616 by decide), (show 0 < 4294967296 by decide)⟩, qh (qh ⟨(show 0 < 18446744073709551616 by decide), (show 0 < 4294967296 by decide), (show 3072 < 18446744073709551616 by decide)⟩)⟩, ⟨Nat.le_of_ble_eq_true rfl, Nat.le_of_ble_eq_true rfl, Nat.le_of_ble_eq_true rfl, Nat.le_of_ble_eq_true rfl, Nat.le_of_ble_eq_true rfl, qh (Nat.le_of_ble_eq_true rfl)⟩, ⟨(Nat.le_of_ble_eq_true rfl), (Nat.le_of_ble_eq_true rfl), (Nat.le_of_ble_eq_true rfl), (Nat.le_of_ble_eq_true rfl), (Nat.le_of_ble_eq_true rfl), qh (Nat.le_of_ble_eq_true rfl)⟩, fun W w fs h ht => ⟨(h.rdB (ht _ (List.mem_of_getElem? (i := 0) rfl)) rfl), (h.rdB (ht _ (List.mem_of_getElem? (i := 1) rfl)) rfl), (h.rdB (ht _ (List.mem_of_getElem? (i := 2) rfl)) rfl), (h.rdB (ht _ (List.mem_of_getElem? (i := 3) rfl)) rfl), (h.rdB (ht _ (List.mem_of_getElem? (i := 4) rfl)) rfl), qh (h.rdB (ht _ (List.mem_of_getElem? (i := 5) rfl)) rfl)⟩⟩, HF.sub (by kernel_rfl), HM.picks [0, 12, 2, 7, 8, 9, 11, 10] (by decide) rfl⟩
    have hd40 := ne_of_beq_false hb40
    refine qc HF rfl (wp_seq (qa ?_))
    refine fp HF 2 0 [(44, .bool ((k : Int) == (1 : Int)))] fun a HF => ?_
    refine qb rfl ?_
    rcases HF.tf 44 rfl with ⟨hb44, HF⟩ | ⟨hb44, HF⟩
    ·
     have hd44 := eq_of_beq hb44
     refine qd HF rfl (qa ?_)
     refine fp HF 2 0 [(47, vI n), (46, vP g5 1)] fun a HF => ?_
     refine fy HF HM 2 rfl rfl rfl (v := vP g5 1) (Yl.nilCheck rfl rfl) fun a HF => ?_
     refine fp HF 2 3 [(50, vP g5 1)] fun a HF => ?_
     refine fo HF 5 rfl rfl ?_
     refine q4 HF HM (i := 0) rfl rfl rfl rfl (by kernel_rfl) rfl rfl (by simp [Snm.cells]) ?_
     clear HM; intro w14_5 HM
     refine qb rfl ?_
     exact ⟨(⟨4, ⟨n, 0, some ⟨e6, 0, none⟩, 1, [⟨0, 1⟩], some ⟨e17, 0, none⟩, 1, [3], some ⟨e18, 0, none⟩, 1, [5], some ⟨e20, 0, none⟩, 1, [⟨5, 0, 1024, 0, 1, true, 3072, 0⟩], some ⟨e23, 0, none⟩, 1, [⟨some ⟨e22, 0, none⟩, 1, [⟨0, 0, 3072⟩]⟩]⟩⟩ : Snm), [.blk e6 #[vI 0, vI 1] 40, .blk e17 #[vI 3] 3, .blk e18 #[vI 5] 3, .blk e20 #[vI 5, vI 0, vI 1024, vI 0, vQ 1, .bool true, vQ 3072, vW 0] 46, .blk e23 #[vS e22 1 1] 44, .blk e22 #[vQ 0, vW 0, vQ 3072] 43], ⟨⟨(show I64 n from hn), (show 0 < 18446744073709551616 from (show 0 < 18446744073709551616 by decide)), qh ⟨(show I64 (0) by unfold I64; decide), (show I64 (1) by unfold I64; decide)⟩, qh (show I64 (3) by unfold I64; decide), qh (show I64 (5) by unfold I64; decide), qh ⟨(show I64 (5) by unfold I64; decide), (show I64 (0) by unfold I64; decide), (show I64 (1024) by unfold I64; decide), (show I64 (0) by unfold I64; decide), (show 1 < 18446744073709551616 by decide), (show 3072 < 18446744073709551616 by decide), (show 0 < 4294967296 by decide)⟩, qh (qh ⟨(show 0 < 18446744073709551616 by decide), (show 0 < 4294967296 by decide), (show 3072 < 18446744073709551616 by decide)⟩)⟩, ⟨Nat.le_of_ble_eq_true rfl, Nat.le_of_ble_eq_true rfl, Nat.le_of_ble_eq_true rfl, Nat.le_of_ble_eq_true rfl, Nat.le_of_ble_eq_true rfl, qh (Nat.le_of_ble_eq_true rfl)⟩, ⟨(Nat.le_of_ble_eq_true rfl), (Nat.le_of_ble_eq_true rfl), (Nat.le_of_ble_eq_true rfl), (Nat.le_of_ble_eq_true rfl), (Nat.le_of_ble_eq_true rfl), qh (Nat.le_of_ble_eq_true rfl)⟩, fun W w fs h ht => ⟨(h.rdB (ht _ (List.mem_of_getElem? (i := 0) rfl)) rfl), (h.rdB (ht _ (List.mem_of_getElem? (i := 1) rfl)) rfl), (h.rdB (ht _ (List.mem_of_getElem? (i := 2) rfl)) rfl), (h.rdB (ht _ (List.mem_of_getElem? (i := 3) rfl)) rfl), (h.rdB (ht _ (List.mem_of_getElem? (i := 4) rfl)) rfl), qh (h.rdB (ht _ (List.mem_of_getElem? (i := 5) rfl)) rfl)⟩⟩, HF.sub (by kernel_rfl), HM.picks [0, 12, 2, 7, 8, 9, 11, 10] (by decide) rfl⟩
    have hd44 := ne_of_beq_false hb44
    refine qc HF rfl (wp_seq (qa ?_))
    refine fp HF 2 0 [(51, .bool ((k : Int) == (2 : Int)))] fun a HF => ?_
    refine qb rfl ?_
    rcases HF.tf 51 rfl with ⟨hb51, HF⟩ | ⟨hb51, HF⟩
    ·
     have hd51 := eq_of_beq hb51
     refine qd HF rfl (qa ?_)
     refine fp HF 3 0 [(55, vQ (IntKind.u64.wrap n)), (53, vP g5 1)] fun a HF => ?_
     replace HF := HF.sp 55 (vQ (toU n)) rfl (zb _)
     refine fy HF HM 3 rfl rfl rfl (v := vP g5 1) (Yl.nilCheck rfl rfl) fun a HF => ?_
     refine fp HF 2 4 [(58, vP g5 2)] fun a HF => ?_
     refine fo HF 6 rfl rfl ?_
     refine q4 HF HM (i := 0) rfl rfl rfl rfl (by kernel_rfl) rfl rfl (by simp [Snm.cells]) ?_
     clear HM; intro w16_6 HM
     refine qb rfl ?_
     exact ⟨(⟨4, ⟨1, toU n, some ⟨e6, 0, none⟩, 1, [⟨0, 1⟩], some ⟨e17, 0, none⟩, 1, [3], some ⟨e18, 0, none⟩, 1, [5], some ⟨e20, 0, none⟩, 1, [⟨5, 0, 1024, 0, 1, true, 3072, 0⟩], some ⟨e23, 0, none⟩, 1, [⟨some ⟨e22, 0, none⟩, 1, [⟨0, 0, 3072⟩]⟩]⟩⟩ : Snm), [.blk e6 #[vI 0, vI 1] 40, .blk e17 #[vI 3] 3, .blk e18 #[vI 5] 3, .blk e20 #[vI 5, vI 0, vI 1024, vI 0, vQ 1, .bool true, vQ 3072, vW 0] 46, .blk e23 #[vS e22 1 1] 44, .blk e22 #[vQ 0, vW 0, vQ 3072] 43], ⟨⟨(show I64 1 from (show I64 (1) by unfold I64; decide)), (show toU n < 18446744073709551616 from (qam n)), qh ⟨(show I64 (0) by unfold I64; decide), (show I64 (1) by unfold I64; decide)⟩, qh (show I64 (3) by unfold I64; decide), qh (show I64 (5) by unfold I64; decide), qh ⟨(show I64 (5) by unfold I64; decide), (show I64 (0) by unfold I64; decide), (show I64 (1024) by unfold I64; decide), (show I64 (0) by unfold I64; decide), (show 1 < 18446744073709551616 by decide), (show 3072 < 18446744073709551616 by decide), (show 0 < 4294967296 by decide)⟩, qh (qh ⟨(show 0 < 18446744073709551616 by decide), (show 0 < 4294967296 by decide), (show 3072 < 18446744073709551616 by decide)⟩)⟩, ⟨Nat.le_of_ble_eq_true rfl, Nat.le_of_ble_eq_true rfl, Nat.le_of_ble_eq_true rfl, Nat.le_of_ble_eq_true rfl, Nat.le_of_ble_eq_true rfl, qh (Nat.le_of_ble_eq_true rfl)⟩, ⟨(Nat.le_of_ble_eq_true rfl), (Nat.le_of_ble_eq_true rfl), (Nat.le_of_ble_eq_true rfl), (Nat.le_of_ble_eq_true rfl), (Nat.le_of_ble_eq_true rfl), qh (Nat.le_of_ble_eq_true rfl)⟩, fun W w fs h ht => ⟨(h.rdB (ht _ (List.mem_of_getElem? (i := 0) rfl)) rfl), (h.rdB (ht _ (List.mem_of_getElem? (i := 1) rfl)) rfl), (h.rdB (ht _ (List.mem_of_getElem? (i := 2) rfl)) rfl), (h.rdB (ht _ (List.mem_of_getElem? (i := 3) rfl)) rfl), (h.rdB (ht _ (List.mem_of_getElem? (i := 4) rfl)) rfl), qh (h.rdB (ht _ (List.mem_of_getElem? (i := 5) rfl)) rfl)⟩⟩, HF.sub (by kernel_rfl), HM.picks [0, 12, 2, 7, 8, 9, 11, 10] (by decide) rfl⟩
    have hd51 := ne_of_beq_false hb51
    refine qc HF rfl (wp_seq (qa ?_))
    refine fp HF 2 0 [(59, .bool ((k : Int) == (3 : Int)))] fun a HF => ?_
    refine qb rfl ?_
    rcases HF.tf 59 rfl with ⟨hb59, HF⟩ | ⟨hb59, HF⟩
    ·
     have hd59 := eq_of_beq hb59
     refine qd HF rfl (wp_seq (qa ?_))
     refine fp HF 2 0 [(62, vP g5 1), (61, vP g5 1)] fun a HF => ?_
     refine fy HF HM 2 rfl rfl rfl (v := vP g5 1) (Yl.nilCheck rfl rfl) fun a HF => ?_
     refine fp HF 2 3 [(65, vP g5 3)] fun a HF => ?_
     refine fy HF HM 5 rfl rfl rfl (v := vS e6 1 1) (Yl.qf rfl rfl (by kernel_rfl) (fun _ h => h.cell (i := 0) rfl (rfl))) fun a HF => ?_
     refine fp HF 1 6 [(67, vI n)] fun a HF => ?_
     refine fy HF HM 7 rfl rfl rfl (v := .agg #[vI 0, vI n]) (Yl.build (vs := [(1, vI n)]) rfl (by kernel_rfl) (by kernel_rfl)) fun a HF => ?_
     refine fo HF 8 rfl rfl ?_
     refine qt HF HM (vs := [(0, .agg #[vI 0, vI n])]) (cs := #[vI 0, vI n]) rfl ei_gr (by decide) rfl (by kernel_rfl) rfl (by decide) ?_
     clear HF HM; intro a w69 g69 HF HM
     refine fo HF 9 rfl rfl ?_
     refine zx HF HM (xs := ([⟨0, 1⟩] : List Gr).flatMap grL) (news := ([⟨0, n⟩] : List Gr).flatMap grL) rfl ei_gr rfl rfl (HM.rdBlk (i := 3) (n := 1) (size := 2) rfl rfl) (HM.rdBlk (i := 0) (n := 1) (size := 2) rfl rfl) (by omega) (by omega) (fun h => by cases h) (by omega) (by omega) rfl (by decide) ?_
     clear HF HM; intro a w70 g70 c70 HF HM hc70
     refine fy HF HM 10 rfl rfl rfl (v := vP g5 1) (Yl.nilCheck rfl rfl) fun a HF => ?_
     refine fp HF 2 11 [(73, vP g5 3)] fun a HF => ?_
     refine fo HF 13 rfl rfl ?_
     refine q4 HF HM (i := 2) rfl rfl rfl rfl (by kernel_rfl) rfl rfl (by simp [Snm.cells]) ?_
     clear HM; intro w18_13 HM
     refine qb rfl (qa ?_)
     refine fp HF 2 0 [(75, vP g5 1), (74, vP g5 1)] fun a HF => ?_
     refine fy HF HM 2 rfl rfl rfl (v := vP g5 1) (Yl.nilCheck rfl rfl) fun a HF => ?_
     refine fp HF 1 3 [(77, vP g5 7)] fun a HF => ?_
     refine fy HF HM 4 rfl rfl rfl (v := vS e23 1 1) (Yl.qf rfl rfl (by kernel_rfl) (fun _ h => h.cell (i := 2) rfl rfl)) fun a HF => ?_
     refine fy HF HM 5 rfl rfl rfl (v := .agg #[vQ 0, vW 0, vQ 0]) (Yl.build (vs := []) rfl (by kernel_rfl) (by kernel_rfl)) fun a HF => ?_
     refine fo HF 6 rfl rfl ?_
     refine qt HF HM (vs := [(0, .agg #[vQ 0, vW 0, vQ 0])]) (cs := #[vQ 0, vW 0, vQ 0]) rfl ei_sp (by decide) rfl (by kernel_rfl) rfl (by decide) ?_
     clear HF HM; intro a w80 g80 HF HM
     refine fo HF 7 rfl rfl ?_
     refine qt HF HM (vs := [(0, vS g80 1 1)]) (cs := #[vS g80 1 1]) rfl ei_rw (by decide) rfl (by kernel_rfl) rfl (by decide) ?_
     clear HF HM; intro a w81 g81 HF HM
     refine fo HF 8 rfl rfl ?_
     refine zx HF HM (xs := ([⟨some ⟨e22, 0, none⟩, 1, [⟨0, 0, 3072⟩]⟩] : List Rw).map Rw.val) (news := ([⟨some ⟨g80, 0, none⟩, 1, [⟨0, 0, 0⟩]⟩] : List Rw).map Rw.val) rfl ei_rw rfl rfl (HM.rdBlk (i := 15) (n := 1) (size := 1) rfl rfl) (HM.rdBlk (i := 0) (n := 1) (size := 1) rfl rfl) (by omega) (by omega) (fun h => by cases h) (by omega) (by omega) rfl (by decide) ?_
     clear HF HM; intro a w82 g82 c82 HF HM hc82
     refine fy HF HM 9 rfl rfl rfl (v := vP g5 1) (Yl.nilCheck rfl rfl) fun a HF => ?_
     refine fp HF 1 10 [(84, vP g5 7)] fun a HF => ?_
     refine fo HF 11 rfl rfl ?_
     refine q4 HF HM (i := 5) rfl rfl rfl rfl (by kernel_rfl) rfl rfl (by simp [Snm.cells]) ?_
     clear HM; intro w19_11 HM
     refine qb rfl ?_
     exact ⟨(⟨4, ⟨1, 0, some ⟨g70, 0, none⟩, c70, [⟨0, 1⟩, ⟨0, n⟩], some ⟨e17, 0, none⟩, 1, [3], some ⟨e18, 0, none⟩, 1, [5], some ⟨e20, 0, none⟩, 1, [⟨5, 0, 1024, 0, 1, true, 3072, 0⟩], some ⟨g82, 0, none⟩, c82, [⟨some ⟨e22, 0, none⟩, 1, [⟨0, 0, 3072⟩]⟩, ⟨some ⟨g80, 0, none⟩, 1, [⟨0, 0, 0⟩]⟩]⟩⟩ : Snm), [.row (vS g70 (1 + 1) c70) (1 + 1) (([⟨0, 1⟩] : List Gr).flatMap grL ++ ([⟨0, n⟩] : List Gr).flatMap grL) 40 2, .blk e17 #[vI 3] 3, .blk e18 #[vI 5] 3, .blk e20 #[vI 5, vI 0, vI 1024, vI 0, vQ 1, .bool true, vQ 3072, vW 0] 46, .row (vS g82 (1 + 1) c82) (1 + 1) (([⟨some ⟨e22, 0, none⟩, 1, [⟨0, 0, 3072⟩]⟩] : List Rw).map Rw.val ++ ([⟨some ⟨g80, 0, none⟩, 1, [⟨0, 0, 0⟩]⟩] : List Rw).map Rw.val) 44 1, .blk e22 #[vQ 0, vW 0, vQ 3072] 43, .blk g80 #[vQ 0, vW 0, vQ 0] 43], ⟨⟨(show I64 1 from (show I64 (1) by unfold I64; decide)), (show 0 < 18446744073709551616 from (show 0 < 18446744073709551616 by decide)), qac ⟨(show I64 (0) by unfold I64; decide), (show I64 (1) by unfold I64; decide)⟩ ⟨(show I64 (0) by unfold I64; decide), hn⟩, qh (show I64 (3) by unfold I64; decide), qh (show I64 (5) by unfold I64; decide), qh ⟨(show I64 (5) by unfold I64; decide), (show I64 (0) by unfold I64; decide), (show I64 (1024) by unfold I64; decide), (show I64 (0) by unfold I64; decide), (show 1 < 18446744073709551616 by decide), (show 3072 < 18446744073709551616 by decide), (show 0 < 4294967296 by decide)⟩, qac (qh ⟨(show 0 < 18446744073709551616 by decide), (show 0 < 4294967296 by decide), (show 3072 < 18446744073709551616 by decide)⟩) (qh ⟨(show 0 < 18446744073709551616 by decide), (show 0 < 4294967296 by decide), (show 0 < 18446744073709551616 by decide)⟩)⟩, ⟨Nat.le_of_ble_eq_true rfl, Nat.le_of_ble_eq_true rfl, Nat.le_of_ble_eq_true rfl, Nat.le_of_ble_eq_true rfl, Nat.le_of_ble_eq_true rfl, qac (Nat.le_of_ble_eq_true rfl) (Nat.le_of_ble_eq_true rfl)⟩, ⟨hc70, (Nat.le_of_ble_eq_true rfl), (Nat.le_of_ble_eq_true rfl), (Nat.le_of_ble_eq_true rfl), hc82, qac (Nat.le_of_ble_eq_true rfl) (Nat.le_of_ble_eq_true rfl)⟩, fun W w fs h ht => ⟨(h.zi (ht _ (List.mem_of_getElem? (i := 0) rfl))), (h.rdB (ht _ (List.mem_of_getElem? (i := 1) rfl)) rfl), (h.rdB (ht _ (List.mem_of_getElem? (i := 2) rfl)) rfl), (h.rdB (ht _ (List.mem_of_getElem? (i := 3) rfl)) rfl), (h.zi (ht _ (List.mem_of_getElem? (i := 4) rfl))), qac (h.rdB (ht _ (List.mem_of_getElem? (i := 5) rfl)) rfl) (h.rdB (ht _ (List.mem_of_getElem? (i := 6) rfl)) rfl)⟩⟩, HF.sub (by kernel_rfl), HM.picks [5, 17, 3, 12, 13, 14, 0, 15, 2] (by decide) rfl⟩
    have hd59 := ne_of_beq_false hb59
    refine qc HF rfl (wp_seq (qa ?_))
    refine fp HF 2 0 [(85, .bool ((k : Int) == (4 : Int)))] fun a HF => ?_
    refine qb rfl ?_
    rcases HF.tf 85 rfl with ⟨hb85, HF⟩ | ⟨hb85, HF⟩
    ·
     have hd85 := eq_of_beq hb85
     refine qd HF rfl (qa ?_)
     refine fp HF 1 0 [(87, vP g5 1)] fun a HF => ?_
     refine fy HF HM 1 rfl rfl rfl (v := vP g5 1) (Yl.nilCheck rfl rfl) fun a HF => ?_
     refine fp HF 1 2 [(89, vP g5 4)] fun a HF => ?_
     refine fy HF HM 3 rfl rfl rfl (v := vS e17 1 1) (Yl.qf rfl rfl (by kernel_rfl) (fun _ h => h.cell (i := 0) rfl (rfl))) fun a HF => ?_
     refine fp HF 1 4 [(91, vI n)] fun a HF => ?_
     refine fy HF HM 5 rfl rfl rfl (v := vP e17 0) (Yl.indexAddr (ad := ⟨e17, 0, none⟩) (y := 0) (sz := 1) rfl rfl rfl (by decide) (by kernel_rfl)) fun a HF => ?_
     refine fo HF 6 rfl rfl ?_
     refine q4 HF HM (i := 7) rfl rfl rfl rfl (by kernel_rfl) rfl rfl (by simp) ?_
     clear HM; intro w21_6 HM
     refine qb rfl ?_
     exact ⟨(⟨4, ⟨1, 0, some ⟨e6, 0, none⟩, 1, [⟨0, 1⟩], some ⟨e17, 0, none⟩, 1, [n], some ⟨e18, 0, none⟩, 1, [5], some ⟨e20, 0, none⟩, 1, [⟨5, 0, 1024, 0, 1, true, 3072, 0⟩], some ⟨e23, 0, none⟩, 1, [⟨some ⟨e22, 0, none⟩, 1, [⟨0, 0, 3072⟩]⟩]⟩⟩ : Snm), [.blk e6 #[vI 0, vI 1] 40, .blk e17 #[vI n] 3, .blk e18 #[vI 5] 3, .blk e20 #[vI 5, vI 0, vI 1024, vI 0, vQ 1, .bool true, vQ 3072, vW 0] 46, .blk e23 #[vS e22 1 1] 44, .blk e22 #[vQ 0, vW 0, vQ 3072] 43], ⟨⟨(show I64 1 from (show I64 (1) by unfold I64; decide)), (show 0 < 18446744073709551616 from (show 0 < 18446744073709551616 by decide)), qh ⟨(show I64 (0) by unfold I64; decide), (show I64 (1) by unfold I64; decide)⟩, qh hn, qh (show I64 (5) by unfold I64; decide), qh ⟨(show I64 (5) by unfold I64; decide), (show I64 (0) by unfold I64; decide), (show I64 (1024) by unfold I64; decide), (show I64 (0) by unfold I64; decide), (show 1 < 18446744073709551616 by decide), (show 3072 < 18446744073709551616 by decide), (show 0 < 4294967296 by decide)⟩, qh (qh ⟨(show 0 < 18446744073709551616 by decide), (show 0 < 4294967296 by decide), (show 3072 < 18446744073709551616 by decide)⟩)⟩, ⟨Nat.le_of_ble_eq_true rfl, Nat.le_of_ble_eq_true rfl, Nat.le_of_ble_eq_true rfl, Nat.le_of_ble_eq_true rfl, Nat.le_of_ble_eq_true rfl, qh (Nat.le_of_ble_eq_true rfl)⟩, ⟨(Nat.le_of_ble_eq_true rfl), (Nat.le_of_ble_eq_true rfl), (Nat.le_of_ble_eq_true rfl), (Nat.le_of_ble_eq_true rfl), (Nat.le_of_ble_eq_true rfl), qh (Nat.le_of_ble_eq_true rfl)⟩, fun W w fs h ht => ⟨(h.rdB (ht _ (List.mem_of_getElem? (i := 0) rfl)) rfl), (h.rdB (ht _ (List.mem_of_getElem? (i := 1) rfl)) rfl), (h.rdB (ht _ (List.mem_of_getElem? (i := 2) rfl)) rfl), (h.rdB (ht _ (List.mem_of_getElem? (i := 3) rfl)) rfl), (h.rdB (ht _ (List.mem_of_getElem? (i := 4) rfl)) rfl), qh (h.rdB (ht _ (List.mem_of_getElem? (i := 5) rfl)) rfl)⟩⟩, HF.sub (by kernel_rfl), HM.picks [0, 12, 2, 7, 8, 9, 11, 10] (by decide) rfl⟩
    have hd85 := ne_of_beq_false hb85
    refine qc HF rfl (wp_seq (qa ?_))
    refine fp HF 2 0 [(93, .bool ((k : Int) == (5 : Int)))] fun a HF => ?_
    refine qb rfl ?_
    rcases HF.tf 93 rfl with ⟨hb93, HF⟩ | ⟨hb93, HF⟩
    ·
     have hd93 := eq_of_beq hb93
     refine qd HF rfl (qa ?_)
     refine fp HF 1 0 [(95, vP g5 1)] fun a HF => ?_
     refine fy HF HM 1 rfl rfl rfl (v := vP g5 1) (Yl.nilCheck rfl rfl) fun a HF => ?_
     refine fp HF 1 2 [(97, vP g5 5)] fun a HF => ?_
     refine fy HF HM 3 rfl rfl rfl (v := vS e18 1 1) (Yl.qf rfl rfl (by kernel_rfl) (fun _ h => h.cell (i := 0) rfl (rfl))) fun a HF => ?_
     refine fp HF 1 4 [(99, vI n)] fun a HF => ?_
     refine fy HF HM 5 rfl rfl rfl (v := vP e18 0) (Yl.indexAddr (ad := ⟨e18, 0, none⟩) (y := 0) (sz := 1) rfl rfl rfl (by decide) (by kernel_rfl)) fun a HF => ?_
     refine fo HF 6 rfl rfl ?_
     refine q4 HF HM (i := 8) rfl rfl rfl rfl (by kernel_rfl) rfl rfl (by simp) ?_
     clear HM; intro w23_6 HM
     refine qb rfl ?_
     exact ⟨(⟨4, ⟨1, 0, some ⟨e6, 0, none⟩, 1, [⟨0, 1⟩], some ⟨e17, 0, none⟩, 1, [3], some ⟨e18, 0, none⟩, 1, [n], some ⟨e20, 0, none⟩, 1, [⟨5, 0, 1024, 0, 1, true, 3072, 0⟩], some ⟨e23, 0, none⟩, 1, [⟨some ⟨e22, 0, none⟩, 1, [⟨0, 0, 3072⟩]⟩]⟩⟩ : Snm), [.blk e6 #[vI 0, vI 1] 40, .blk e17 #[vI 3] 3, .blk e18 #[vI n] 3, .blk e20 #[vI 5, vI 0, vI 1024, vI 0, vQ 1, .bool true, vQ 3072, vW 0] 46, .blk e23 #[vS e22 1 1] 44, .blk e22 #[vQ 0, vW 0, vQ 3072] 43], ⟨⟨(show I64 1 from (show I64 (1) by unfold I64; decide)), (show 0 < 18446744073709551616 from (show 0 < 18446744073709551616 by decide)), qh ⟨(show I64 (0) by unfold I64; decide), (show I64 (1) by unfold I64; decide)⟩, qh (show I64 (3) by unfold I64; decide), qh hn, qh ⟨(show I64 (5) by unfold I64; decide), (show I64 (0) by unfold I64; decide), (show I64 (1024) by unfold I64; decide), (show I64 (0) by unfold I64; decide), (show 1 < 18446744073709551616 by decide), (show 3072 < 18446744073709551616 by decide), (show 0 < 4294967296 by decide)⟩, qh (qh ⟨(show 0 < 18446744073709551616 by decide), (show 0 < 4294967296 by decide), (show 3072 < 18446744073709551616 by decide)⟩)⟩, ⟨Nat.le_of_ble_eq_true rfl, Nat.le_of_ble_eq_true rfl, Nat.le_of_ble_eq_true rfl, Nat.le_of_ble_eq_true rfl, Nat.le_of_ble_eq_true rfl, qh (Nat.le_of_ble_eq_true rfl)⟩, ⟨(Nat.le_of_ble_eq_true rfl), (Nat.le_of_ble_eq_true rfl), (Nat.le_of_ble_eq_true rfl), (Nat.le_of_ble_eq_true rfl), (Nat.le_of_ble_eq_true rfl), qh (Nat.le_of_ble_eq_true rfl)⟩, fun W w fs h ht => ⟨(h.rdB (ht _ (List.mem_of_getElem? (i := 0) rfl)) rfl), (h.rdB (ht _ (List.mem_of_getElem? (i := 1) rfl)) rfl), (h.rdB (ht _ (List.mem_of_getElem? (i := 2) rfl)) rfl), (h.rdB (ht _ (List.mem_of_getElem? (i := 3) rfl)) rfl), (h.rdB (ht _ (List.mem_of_getElem? (i := 4) rfl)) rfl), qh (h.rdB (ht _ (List.mem_of_getElem? (i := 5) rfl)) rfl)⟩⟩, HF.sub (by kernel_rfl), HM.picks [0, 12, 2, 7, 8, 9, 11, 10] (by decide) rfl⟩
    have hd93 := ne_of_beq_false hb93
    refine qc HF rfl (wp_seq (qa ?_))
    refine fp HF 2 0 [(101, .bool ((k : Int) == (6 : Int)))] fun a HF => ?_
    refine qb rfl ?_
    rcases HF.tf 101 rfl with ⟨hb101, HF⟩ | ⟨hb101, HF⟩
    ·
     have hd101 := eq_of_beq hb101
     refine qd HF rfl ?_
     refine zc HM [.blk g5 ((exB e6 e17 e18 e20 e22 e23).cells) 32, .blk g4 ((exA e6 e9 e10 e12 e13).cells) 32, .blk e6 #[vI 0, vI 1] 40, .blk e9 #[vI 0] 3, .blk e10 #[vI 0] 3, .blk e12 #[vQ 0, vW 0, vQ 0] 43, .blk e13 #[vS e12 1 1] 44, .blk e17 #[vI 3] 3, .blk e18 #[vI 5] 3, .blk e22 #[vQ 0, vW 0, vQ 3072] 43, .blk e23 #[vS e22 1 1] 44, .row (vS g14 22 22) 22 (qa8.map I64i) 3 1] [0, 1, 2, 3, 4, 5, 6, 7, 8, 10, 11, 12] [15] fun HM HS => ?_
     refine ap HF (fun _ => HS) [0, 4, 8, 9] #[true, false, false, false, true, false, false, false, true, true, false, false, false, false, false, false] [(112, vI n), (111, vI n), (107, vP g5 1), (103, vP g5 1)] fun a HF => ?_
     refine ay HF HS 1 rfl rfl rfl (v := vP g5 1) (Yl.nilCheck rfl rfl) fun a HF => ?_
     refine ap HF (fun _ => HS) [2] #[true, true, true, false, true, false, false, false, true, true, false, false, false, false, false, false] [(105, vP g5 6)] fun a HF => ?_
     refine ay HF HS 3 rfl rfl rfl (v := vS e20 1 1) (Yl.qf rfl rfl (by kernel_rfl) (fun _ h => h.cell (i := 0) rfl (rfl))) fun a HF => ?_
     refine ay HF HS 5 rfl rfl rfl (v := vP g5 1) (Yl.nilCheck rfl rfl) fun a HF => ?_
     refine ap HF (fun _ => HS) [6] #[true, true, true, true, true, true, true, false, true, true, false, false, false, false, false, false] [(109, vP g5 5)] fun a HF => ?_
     refine ay HF HS 7 rfl rfl rfl (v := vS e18 1 1) (Yl.qf rfl rfl (by kernel_rfl) (fun _ h => h.cell (i := 0) rfl (rfl))) fun a HF => ?_
     refine ay HF HS 10 rfl rfl rfl (v := vI (if (0 : Int) > (n : Int) then 0 else n)) (Yl.max rfl rfl rfl) fun a HF => ?_
     refine ay HF HS 11 rfl rfl rfl (v := vP e20 0) (Yl.indexAddr (ad := ⟨e20, 0, none⟩) (y := 0) (sz := 8) rfl rfl rfl (by decide) (by kernel_rfl)) fun a HF => ?_
     refine ap HF (fun _ => HS) [12] #[true, true, true, true, true, true, true, true, true, true, true, true, true, false, false, false] [(115, vP e20 0)] fun a HF => ?_
     refine qm [13] (by kernel_rfl) rfl ?_
     refine all_cons ?_ all_nil
     refine qk HF (i := 13) rfl rfl ?_
     refine q4 HF HM (i := 9) rfl rfl rfl rfl (by kernel_rfl) rfl rfl (by simp) ?_
     clear HM; intro w25_13 HM
     refine keepS (HM.picks [0, 1, 2, 3, 4, 5, 6, 7, 8, 10, 11, 12] (by decide) rfl) (fun HS => ?_)
     refine ay HF HS 14 rfl rfl rfl (v := vP e18 0) (Yl.indexAddr (ad := ⟨e18, 0, none⟩) (y := 0) (sz := 1) rfl rfl rfl (by decide) (by kernel_rfl)) fun a HF => ?_
     refine qm [15] (by kernel_rfl) rfl ?_
     refine all_cons ?_ all_nil
     refine qk HF (i := 15) rfl rfl ?_
     refine q4 HF HM (i := 8) rfl rfl rfl rfl (by kernel_rfl) rfl rfl (by simp) ?_
     clear HM; intro w25_15 HM
     refine noS (by kernel_rfl) ?_
     refine qq (by kernel_rfl) ?_
     exact ⟨(⟨4, ⟨1, 0, some ⟨e6, 0, none⟩, 1, [⟨0, 1⟩], some ⟨e17, 0, none⟩, 1, [3], some ⟨e18, 0, none⟩, 1, [if (0 : Int) > (n : Int) then 0 else n], some ⟨e20, 0, none⟩, 1, [⟨n, 0, 1024, 0, 1, true, 3072, 0⟩], some ⟨e23, 0, none⟩, 1, [⟨some ⟨e22, 0, none⟩, 1, [⟨0, 0, 3072⟩]⟩]⟩⟩ : Snm), [.blk e6 #[vI 0, vI 1] 40, .blk e17 #[vI 3] 3, .blk e18 #[vI (if (0 : Int) > (n : Int) then 0 else n)] 3, .blk e20 #[vI n, vI 0, vI 1024, vI 0, vQ 1, .bool true, vQ 3072, vW 0] 46, .blk e23 #[vS e22 1 1] 44, .blk e22 #[vQ 0, vW 0, vQ 3072] 43], ⟨⟨(show I64 1 from (show I64 (1) by unfold I64; decide)), (show 0 < 18446744073709551616 from (show 0 < 18446744073709551616 by decide)), qh ⟨(show I64 (0) by unfold I64; decide), (show I64 (1) by unfold I64; decide)⟩, qh (show I64 (3) by unfold I64; decide), qh (by unfold I64 at hn ⊢; split <;> omega), qh ⟨hn, (show I64 (0) by unfold I64; decide), (show I64 (1024) by unfold I64; decide), (show I64 (0) by unfold I64; decide), (show 1 < 18446744073709551616 by decide), (show 3072 < 18446744073709551616 by decide), (show 0 < 4294967296 by decide)⟩, qh (qh ⟨(show 0 < 18446744073709551616 by decide), (show 0 < 4294967296 by decide), (show 3072 < 18446744073709551616 by decide)⟩)⟩, ⟨Nat.le_of_ble_eq_true rfl, Nat.le_of_ble_eq_true rfl, Nat.le_of_ble_eq_true rfl, Nat.le_of_ble_eq_true rfl, Nat.le_of_ble_eq_true rfl, qh (Nat.le_of_ble_eq_true rfl)⟩, ⟨(Nat.le_of_ble_eq_true rfl), (Nat.le_of_ble_eq_true rfl), (Nat.le_of_ble_eq_true rfl), (Nat.le_of_ble_eq_true rfl), (Nat.le_of_ble_eq_true rfl), qh (Nat.le_of_ble_eq_true rfl)⟩, fun W w fs h ht => ⟨(h.rdB (ht _ (List.mem_of_getElem? (i := 0) rfl)) rfl), (h.rdB (ht _ (List.mem_of_getElem? (i := 1) rfl)) rfl), (h.rdB (ht _ (List.mem_of_getElem? (i := 2) rfl)) rfl), (h.rdB (ht _ (List.mem_of_getElem? (i := 3) rfl)) rfl), (h.rdB (ht _ (List.mem_of_getElem? (i := 4) rfl)) rfl), qh (h.rdB (ht _ (List.mem_of_getElem? (i := 5) rfl)) rfl)⟩⟩, HF.sub (by kernel_rfl), HM.picks [0, 12, 2, 7, 8, 9, 11, 10] (by decide) rfl⟩
    have hd101 := ne_of_beq_false hb101
    refine qc HF rfl (wp_seq (qa ?_))
    refine fp HF 2 0 [(117, .bool ((k : Int) == (7 : Int)))] fun a HF => ?_
    refine qb rfl ?_
    rcases HF.tf 117 rfl with ⟨hb117, HF⟩ | ⟨hb117, HF⟩
    ·
     have hd117 := eq_of_beq hb117
     refine qd HF rfl (qa ?_)
     refine fp HF 1 0 [(119, vP g5 1)] fun a HF => ?_
     refine fy HF HM 1 rfl rfl rfl (v := vP g5 1) (Yl.nilCheck rfl rfl) fun a HF => ?_
     refine fp HF 1 2 [(121, vP g5 6)] fun a HF => ?_
     refine fy HF HM 3 rfl rfl rfl (v := vS e20 1 1) (Yl.qf rfl rfl (by kernel_rfl) (fun _ h => h.cell (i := 0) rfl (rfl))) fun a HF => ?_
     refine fp HF 1 4 [(123, vI n)] fun a HF => ?_
     refine fy HF HM 5 rfl rfl rfl (v := vP e20 0) (Yl.indexAddr (ad := ⟨e20, 0, none⟩) (y := 0) (sz := 8) rfl rfl rfl (by decide) (by kernel_rfl)) fun a HF => ?_
     refine fp HF 1 6 [(125, vP e20 2)] fun a HF => ?_
     refine fo HF 7 rfl rfl ?_
     refine q4 HF HM (i := 9) rfl rfl rfl rfl (by kernel_rfl) rfl rfl (by simp) ?_
     clear HM; intro w27_7 HM
     refine qb rfl ?_
     exact ⟨(⟨4, ⟨1, 0, some ⟨e6, 0, none⟩, 1, [⟨0, 1⟩], some ⟨e17, 0, none⟩, 1, [3], some ⟨e18, 0, none⟩, 1, [5], some ⟨e20, 0, none⟩, 1, [⟨5, 0, n, 0, 1, true, 3072, 0⟩], some ⟨e23, 0, none⟩, 1, [⟨some ⟨e22, 0, none⟩, 1, [⟨0, 0, 3072⟩]⟩]⟩⟩ : Snm), [.blk e6 #[vI 0, vI 1] 40, .blk e17 #[vI 3] 3, .blk e18 #[vI 5] 3, .blk e20 #[vI 5, vI 0, vI n, vI 0, vQ 1, .bool true, vQ 3072, vW 0] 46, .blk e23 #[vS e22 1 1] 44, .blk e22 #[vQ 0, vW 0, vQ 3072] 43], ⟨⟨(show I64 1 from (show I64 (1) by unfold I64; decide)), (show 0 < 18446744073709551616 from (show 0 < 18446744073709551616 by decide)), qh ⟨(show I64 (0) by unfold I64; decide), (show I64 (1) by unfold I64; decide)⟩, qh (show I64 (3) by unfold I64; decide), qh (show I64 (5) by unfold I64; decide), qh ⟨(show I64 (5) by unfold I64; decide), (show I64 (0) by unfold I64; decide), hn, (show I64 (0) by unfold I64; decide), (show 1 < 18446744073709551616 by decide), (show 3072 < 18446744073709551616 by decide), (show 0 < 4294967296 by decide)⟩, qh (qh ⟨(show 0 < 18446744073709551616 by decide), (show 0 < 4294967296 by decide), (show 3072 < 18446744073709551616 by decide)⟩)⟩, ⟨Nat.le_of_ble_eq_true rfl, Nat.le_of_ble_eq_true rfl, Nat.le_of_ble_eq_true rfl, Nat.le_of_ble_eq_true rfl, Nat.le_of_ble_eq_true rfl, qh (Nat.le_of_ble_eq_true rfl)⟩, ⟨(Nat.le_of_ble_eq_true rfl), (Nat.le_of_ble_eq_true rfl), (Nat.le_of_ble_eq_true rfl), (Nat.le_of_ble_eq_true rfl), (Nat.le_of_ble_eq_true rfl), qh (Nat.le_of_ble_eq_true rfl)⟩, fun W w fs h ht => ⟨(h.rdB (ht _ (List.mem_of_getElem? (i := 0) rfl)) rfl), (h.rdB (ht _ (List.mem_of_getElem? (i := 1) rfl)) rfl), (h.rdB (ht _ (List.mem_of_getElem? (i := 2) rfl)) rfl), (h.rdB (ht _ (List.mem_of_getElem? (i := 3) rfl)) rfl), (h.rdB (ht _ (List.mem_of_getElem? (i := 4) rfl)) rfl), qh (h.rdB (ht _ (List.mem_of_getElem? (i := 5) rfl)) rfl)⟩⟩, HF.sub (by kernel_rfl), HM.picks [0, 12, 2, 7, 8, 9, 11, 10] (by decide) rfl⟩
    have hd117 := ne_of_beq_false hb117
    refine qc HF rfl (wp_seq (qa ?_))
    refine fp HF 2 0 [(126, .bool ((k : Int) == (8 : Int)))] fun a HF => ?_
    refine qb rfl ?_
    rcases HF.tf 126 rfl with ⟨hb126, HF⟩ | ⟨hb126, HF⟩
    ·
     have hd126 := eq_of_beq hb126
     refine qd HF rfl (qa ?_)
     refine fp HF 1 0 [(128, vP g5 1)] fun a HF => ?_
     refine fy HF HM 1 rfl rfl rfl (v := vP g5 1) (Yl.nilCheck rfl rfl) fun a HF => ?_
     refine fp HF 1 2 [(130, vP g5 6)] fun a HF => ?_
     refine fy HF HM 3 rfl rfl rfl (v := vS e20 1 1) (Yl.qf rfl rfl (by kernel_rfl) (fun _ h => h.cell (i := 0) rfl (rfl))) fun a HF => ?_
     refine fp HF 2 4 [(133, vQ (IntKind.u64.wrap n))] fun a HF => ?_
     replace HF := HF.sp 133 (vQ (toU n)) rfl (zb _)
     refine fy HF HM 6 rfl rfl rfl (v := vP e20 0) (Yl.indexAddr (ad := ⟨e20, 0, none⟩) (y := 0) (sz := 8) rfl rfl rfl (by decide) (by kernel_rfl)) fun a HF => ?_
     refine fp HF 1 7 [(135, vP e20 4)] fun a HF => ?_
     refine fo HF 8 rfl rfl ?_
     refine q4 HF HM (i := 9) rfl rfl rfl rfl (by kernel_rfl) rfl rfl (by simp) ?_
     clear HM; intro w29_8 HM
     refine qb rfl ?_
     exact ⟨(⟨4, ⟨1, 0, some ⟨e6, 0, none⟩, 1, [⟨0, 1⟩], some ⟨e17, 0, none⟩, 1, [3], some ⟨e18, 0, none⟩, 1, [5], some ⟨e20, 0, none⟩, 1, [⟨5, 0, 1024, 0, toU n, true, 3072, 0⟩], some ⟨e23, 0, none⟩, 1, [⟨some ⟨e22, 0, none⟩, 1, [⟨0, 0, 3072⟩]⟩]⟩⟩ : Snm), [.blk e6 #[vI 0, vI 1] 40, .blk e17 #[vI 3] 3, .blk e18 #[vI 5] 3, .blk e20 #[vI 5, vI 0, vI 1024, vI 0, vQ (toU n), .bool true, vQ 3072, vW 0] 46, .blk e23 #[vS e22 1 1] 44, .blk e22 #[vQ 0, vW 0, vQ 3072] 43], ⟨⟨(show I64 1 from (show I64 (1) by unfold I64; decide)), (show 0 < 18446744073709551616 from (show 0 < 18446744073709551616 by decide)), qh ⟨(show I64 (0) by unfold I64; decide), (show I64 (1) by unfold I64; decide)⟩, qh (show I64 (3) by unfold I64; decide), qh (show I64 (5) by unfold I64; decide), qh ⟨(show I64 (5) by unfold I64; decide), (show I64 (0) by unfold I64; decide), (show I64 (1024) by unfold I64; decide), (show I64 (0) by unfold I64; decide), (qam n), (show 3072 < 18446744073709551616 by decide), (show 0 < 4294967296 by decide)⟩, qh (qh ⟨(show 0 < 18446744073709551616 by decide), (show 0 < 4294967296 by decide), (show 3072 < 18446744073709551616 by decide)⟩)⟩, ⟨Nat.le_of_ble_eq_true rfl, Nat.le_of_ble_eq_true rfl, Nat.le_of_ble_eq_true rfl, Nat.le_of_ble_eq_true rfl, Nat.le_of_ble_eq_true rfl, qh (Nat.le_of_ble_eq_true rfl)⟩, ⟨(Nat.le_of_ble_eq_true rfl), (Nat.le_of_ble_eq_true rfl), (Nat.le_of_ble_eq_true rfl), (Nat.le_of_ble_eq_true rfl), (Nat.le_of_ble_eq_true rfl), qh (Nat.le_of_ble_eq_true rfl)⟩, fun W w fs h ht => ⟨(h.rdB (ht _ (List.mem_of_getElem? (i := 0) rfl)) rfl), (h.rdB (ht _ (List.mem_of_getElem? (i := 1) rfl)) rfl), (h.rdB (ht _ (List.mem_of_getElem? (i := 2) rfl)) rfl), (h.rdB (ht _ (List.mem_of_getElem? (i := 3) rfl)) rfl), (h.rdB (ht _ (List.mem_of_getElem? (i := 4) rfl)) rfl), qh (h.rdB (ht _ (List.mem_of_getElem? (i := 5) rfl)) rfl)⟩⟩, HF.sub (by kernel_rfl), HM.picks [0, 12, 2, 7, 8, 9, 11, 10] (by decide) rfl⟩
    have hd126 := ne_of_beq_false hb126
    refine qc HF rfl (wp_seq (qa ?_))
    refine fp HF 2 0 [(136, .bool ((k : Int) == (9 : Int)))] fun a HF => ?_
    refine qb rfl ?_
    rcases HF.tf 136 rfl with ⟨hb136, HF⟩ | ⟨hb136, HF⟩
    ·
     have hd136 := eq_of_beq hb136
     refine qd HF rfl ?_
     refine zc HM [.blk g5 ((exB e6 e17 e18 e20 e22 e23).cells) 32, .blk g4 ((exA e6 e9 e10 e12 e13).cells) 32, .blk e6 #[vI 0, vI 1] 40, .blk e9 #[vI 0] 3, .blk e10 #[vI 0] 3, .blk e12 #[vQ 0, vW 0, vQ 0] 43, .blk e13 #[vS e12 1 1] 44, .blk e17 #[vI 3] 3, .blk e18 #[vI 5] 3, .blk e23 #[vS e22 1 1] 44, .row (vS g14 22 22) 22 (qa8.map I64i) 3 1] [0, 1, 2, 3, 4, 5, 6, 7, 8, 11, 12] [] fun HM HS => ?_
     refine ap HF (fun _ => HS) [0, 4, 10, 12] #[true, false, false, false, true, false, false, false, false, false, true, false, true, false, false, false, false, false, false, false] [(150, vI n), (148, vI n), (142, vP g5 1), (138, vP g5 1)] fun a HF => ?_
     refine ay HF HS 1 rfl rfl rfl (v := vP g5 1) (Yl.nilCheck rfl rfl) fun a HF => ?_
     refine ap HF (fun _ => HS) [2] #[true, true, true, false, true, false, false, false, false, false, true, false, true, false, false, false, false, false, false, false] [(140, vP g5 6)] fun a HF => ?_
     refine ay HF HS 3 rfl rfl rfl (v := vS e20 1 1) (Yl.qf rfl rfl (by kernel_rfl) (fun _ h => h.cell (i := 0) rfl (rfl))) fun a HF => ?_
     refine ay HF HS 5 rfl rfl rfl (v := vP g5 1) (Yl.nilCheck rfl rfl) fun a HF => ?_
     refine ap HF (fun _ => HS) [6] #[true, true, true, true, true, true, true, false, false, false, true, false, true, false, false, false, false, false, false, false] [(144, vP g5 7)] fun a HF => ?_
     refine ay HF HS 7 rfl rfl rfl (v := vS e23 1 1) (Yl.qf rfl rfl (by kernel_rfl) (fun _ h => h.cell (i := 0) rfl (rfl))) fun a HF => ?_
     refine ay HF HS 8 rfl rfl rfl (v := vP e23 0) (Yl.indexAddr (ad := ⟨e23, 0, none⟩) (y := 0) (sz := 1) rfl rfl rfl (by decide) (by kernel_rfl)) fun a HF => ?_
     refine ay HF HS 9 rfl rfl rfl (v := vS e22 1 1) (Yl.qf rfl rfl (by kernel_rfl) (fun _ h => h.cell (i := 9) rfl rfl)) fun a HF => ?_
     refine q3 HF (fun _ => HS) (i := 11) rfl rfl (d := 149) rfl (by decide) (by kernel_rfl) (fun _ _ _ h => h) (v := vQ (IntKind.u64.wrap n)) (fun _ => Yl.pure (by kernel_rfl)) fun a HF => ?_
     replace HF := HF.sp 149 (vQ (toU n)) rfl (zb _)
     refine q3 HF (fun _ => HS) (i := 13) rfl rfl (d := 151) rfl (by decide) (by kernel_rfl) (fun _ _ _ h => h) (v := vQ (IntKind.u64.wrap n)) (fun _ => Yl.pure (by kernel_rfl)) fun a HF => ?_
     replace HF := HF.sp 151 (vQ (toU n)) rfl (zb _)
     refine ay HF HS 14 rfl rfl rfl (v := vP e20 0) (Yl.indexAddr (ad := ⟨e20, 0, none⟩) (y := 0) (sz := 8) rfl rfl rfl (by decide) (by kernel_rfl)) fun a HF => ?_
     refine ap HF (fun _ => HS) [15] #[true, true, true, true, true, true, true, true, true, true, true, true, true, true, true, true, false, false, false, false] [(153, vP e20 6)] fun a HF => ?_
     refine qm [16] (by kernel_rfl) rfl ?_
     refine all_cons ?_ all_nil
     refine qk HF (i := 16) rfl rfl ?_
     refine q4 HF HM (i := 9) rfl rfl rfl rfl (by kernel_rfl) rfl rfl (by simp) ?_
     clear HM; intro w31_16 HM
     refine keepS (HM.picks [0, 1, 2, 3, 4, 5, 6, 7, 8, 11, 12] (by decide) rfl) (fun HS => ?_)
     refine ay HF HS 17 rfl rfl rfl (v := vP e22 0) (Yl.indexAddr (ad := ⟨e22, 0, none⟩) (y := 0) (sz := 3) rfl rfl rfl (by decide) (by kernel_rfl)) fun a HF => ?_
     refine ap HF (fun _ => HS) [18] #[true, true, true, true, true, true, true, true, true, true, true, true, true, true, true, true, true, true, true, false] [(155, vP e22 2)] fun a HF => ?_
     refine qm [19] (by kernel_rfl) rfl ?_
     refine all_cons ?_ all_nil
     refine qk HF (i := 19) rfl rfl ?_
     refine q4 HF HM (i := 10) rfl rfl rfl rfl (by kernel_rfl) rfl rfl (by simp) ?_
     clear HM; intro w31_19 HM
     refine keepS (HM.picks [0, 1, 2, 3, 4, 5, 6, 7, 8, 11, 12] (by decide) rfl) (fun HS => ?_)
     refine qq (by kernel_rfl) ?_
     exact ⟨(⟨4, ⟨1, 0, some ⟨e6, 0, none⟩, 1, [⟨0, 1⟩], some ⟨e17, 0, none⟩, 1, [3], some ⟨e18, 0, none⟩, 1, [5], some ⟨e20, 0, none⟩, 1, [⟨5, 0, 1024, 0, 1, true, toU n, 0⟩], some ⟨e23, 0, none⟩, 1, [⟨some ⟨e22, 0, none⟩, 1, [⟨0, 0, toU n⟩]⟩]⟩⟩ : Snm), [.blk e6 #[vI 0, vI 1] 40, .blk e17 #[vI 3] 3, .blk e18 #[vI 5] 3, .blk e20 #[vI 5, vI 0, vI 1024, vI 0, vQ 1, .bool true, vQ (toU n), vW 0] 46, .blk e23 #[vS e22 1 1] 44, .blk e22 #[vQ 0, vW 0, vQ (toU n)] 43], ⟨⟨(show I64 1 from (show I64 (1) by unfold I64; decide)), (show 0 < 18446744073709551616 from (show 0 < 18446744073709551616 by decide)), qh ⟨(show I64 (0) by unfold I64; decide), (show I64 (1) by unfold I64; decide)⟩, qh (show I64 (3) by unfold I64; decide), qh (show I64 (5) by unfold I64; decide), qh ⟨(show I64 (5) by unfold I64; decide), (show I64 (0) by unfold I64; decide), (show I64 (1024) by unfold I64; decide), (show I64 (0) by unfold I64; decide), (show 1 < 18446744073709551616 by decide), (qam n), (show 0 < 4294967296 by decide)⟩, qh (qh ⟨(show 0 < 18446744073709551616 by decide), (show 0 < 4294967296 by decide), (qam n)⟩)⟩, ⟨Nat.le_of_ble_eq_true rfl, Nat.le_of_ble_eq_true rfl, Nat.le_of_ble_eq_true rfl, Nat.le_of_ble_eq_true rfl, Nat.le_of_ble_eq_true rfl, qh (Nat.le_of_ble_eq_true rfl)⟩, ⟨(Nat.le_of_ble_eq_true rfl), (Nat.le_of_ble_eq_true rfl), (Nat.le_of_ble_eq_true rfl), (Nat.le_of_ble_eq_true rfl), (Nat.le_of_ble_eq_true rfl), qh (Nat.le_of_ble_eq_true rfl)⟩, fun W w fs h ht => ⟨(h.rdB (ht _ (List.mem_of_getElem? (i := 0) rfl)) rfl), (h.rdB (ht _ (List.mem_of_getElem? (i := 1) rfl)) rfl), (h.rdB (ht _ (List.mem_of_getElem? (i := 2) rfl)) rfl), (h.rdB (ht _ (List.mem_of_getElem? (i := 3) rfl)) rfl), (h.rdB (ht _ (List.mem_of_getElem? (i := 4) rfl)) rfl), qh (h.rdB (ht _ (List.mem_of_getElem? (i := 5) rfl)) rfl)⟩⟩, HF.sub (by kernel_rfl), HM.picks [0, 12, 2, 7, 8, 9, 11, 10] (by decide) rfl⟩
    have hd136 := ne_of_beq_false hb136
    refine qc HF rfl (wp_seq (qa ?_))
    refine fp HF 2 0 [(156, .bool ((k : Int) == (10 : Int)))] fun a HF => ?_
    refine qb rfl ?_
    rcases HF.tf 156 rfl with ⟨hb156, HF⟩ | ⟨hb156, HF⟩
    ·
     have hd156 := eq_of_beq hb156
     refine qd HF rfl (qa ?_)
     refine fp HF 1 0 [(158, vP g5 1)] fun a HF => ?_
     refine fy HF HM 1 rfl rfl rfl (v := vP g5 1) (Yl.nilCheck rfl rfl) fun a HF => ?_
     refine fp HF 1 2 [(160, vP g5 6)] fun a HF => ?_
     refine fy HF HM 3 rfl rfl rfl (v := vS e20 1 1) (Yl.qf rfl rfl (by kernel_rfl) (fun _ h => h.cell (i := 0) rfl (rfl))) fun a HF => ?_
     refine fp HF 2 4 [(163, vW (IntKind.u32.wrap n))] fun a HF => ?_
     replace HF := HF.sp 163 (vW (toW n)) rfl (qra _)
     refine fy HF HM 6 rfl rfl rfl (v := vP e20 0) (Yl.indexAddr (ad := ⟨e20, 0, none⟩) (y := 0) (sz := 8) rfl rfl rfl (by decide) (by kernel_rfl)) fun a HF => ?_
     refine fp HF 1 7 [(165, vP e20 7)] fun a HF => ?_
     refine fo HF 8 rfl rfl ?_
     refine q4 HF HM (i := 9) rfl rfl rfl rfl (by kernel_rfl) rfl rfl (by simp) ?_
     clear HM; intro w33_8 HM
     refine qb rfl ?_
     exact ⟨(⟨4, ⟨1, 0, some ⟨e6, 0, none⟩, 1, [⟨0, 1⟩], some ⟨e17, 0, none⟩, 1, [3], some ⟨e18, 0, none⟩, 1, [5], some ⟨e20, 0, none⟩, 1, [⟨5, 0, 1024, 0, 1, true, 3072, toW n⟩], some ⟨e23, 0, none⟩, 1, [⟨some ⟨e22, 0, none⟩, 1, [⟨0, 0, 3072⟩]⟩]⟩⟩ : Snm), [.blk e6 #[vI 0, vI 1] 40, .blk e17 #[vI 3] 3, .blk e18 #[vI 5] 3, .blk e20 #[vI 5, vI 0, vI 1024, vI 0, vQ 1, .bool true, vQ 3072, vW (toW n)] 46, .blk e23 #[vS e22 1 1] 44, .blk e22 #[vQ 0, vW 0, vQ 3072] 43], ⟨⟨(show I64 1 from (show I64 (1) by unfold I64; decide)), (show 0 < 18446744073709551616 from (show 0 < 18446744073709551616 by decide)), qh ⟨(show I64 (0) by unfold I64; decide), (show I64 (1) by unfold I64; decide)⟩, qh (show I64 (3) by unfold I64; decide), qh (show I64 (5) by unfold I64; decide), qh ⟨(show I64 (5) by unfold I64; decide), (show I64 (0) by unfold I64; decide), (show I64 (1024) by unfold I64; decide), (show I64 (0) by unfold I64; decide), (show 1 < 18446744073709551616 by decide), (show 3072 < 18446744073709551616 by decide), (qmn n)⟩, qh (qh ⟨(show 0 < 18446744073709551616 by decide), (show 0 < 4294967296 by decide), (show 3072 < 18446744073709551616 by decide)⟩)⟩, ⟨Nat.le_of_ble_eq_true rfl, Nat.le_of_ble_eq_true rfl, Nat.le_of_ble_eq_true rfl, Nat.le_of_ble_eq_true rfl, Nat.le_of_ble_eq_true rfl, qh (Nat.le_of_ble_eq_true rfl)⟩, ⟨(Nat.le_of_ble_eq_true rfl), (Nat.le_of_ble_eq_true rfl), (Nat.le_of_ble_eq_true rfl), (Nat.le_of_ble_eq_true rfl), (Nat.le_of_ble_eq_true rfl), qh (Nat.le_of_ble_eq_true rfl)⟩, fun W w fs h ht => ⟨(h.rdB (ht _ (List.mem_of_getElem? (i := 0) rfl)) rfl), (h.rdB (ht _ (List.mem_of_getElem? (i := 1) rfl)) rfl), (h.rdB (ht _ (List.mem_of_getElem? (i := 2) rfl)) rfl), (h.rdB (ht _ (List.mem_of_getElem? (i := 3) rfl)) rfl), (h.rdB (ht _ (List.mem_of_getElem? (i := 4) rfl)) rfl), qh (h.rdB (ht _ (List.mem_of_getElem? (i := 5) rfl)) rfl)⟩⟩, HF.sub (by kernel_rfl), HM.picks [0, 12, 2, 7, 8, 9, 11, 10] (by decide) rfl⟩
    have hd156 := ne_of_beq_false hb156
    refine qc HF rfl (wp_seq (qa ?_))
    refine fp HF 2 0 [(166, .bool ((k : Int) == (11 : Int)))] fun a HF => ?_
    refine qb rfl ?_
    rcases HF.tf 166 rfl with ⟨hb166, HF⟩ | ⟨hb166, HF⟩
    ·
     have hd166 := eq_of_beq hb166
     refine qd HF rfl (qa ?_)
     refine fp HF 1 0 [(168, vP g5 1)] fun a HF => ?_
     refine fy HF HM 1 rfl rfl rfl (v := vP g5 1) (Yl.nilCheck rfl rfl) fun a HF => ?_
     refine fp HF 1 2 [(170, vP g5 7)] fun a HF => ?_
     refine fy HF HM 3 rfl rfl rfl (v := vS e23 1 1) (Yl.qf rfl rfl (by kernel_rfl) (fun _ h => h.cell (i := 0) rfl (rfl))) fun a HF => ?_
     refine fy HF HM 4 rfl rfl rfl (v := vP e23 0) (Yl.indexAddr (ad := ⟨e23, 0, none⟩) (y := 0) (sz := 1) rfl rfl rfl (by decide) (by kernel_rfl)) fun a HF => ?_
     refine fy HF HM 5 rfl rfl rfl (v := vS e22 1 1) (Yl.qf rfl rfl (by kernel_rfl) (fun _ h => h.cell (i := 11) rfl rfl)) fun a HF => ?_
     refine fp HF 2 6 [(175, vQ (IntKind.u64.wrap n))] fun a HF => ?_
     replace HF := HF.sp 175 (vQ (toU n)) rfl (zb _)
     refine fy HF HM 8 rfl rfl rfl (v := vP e22 0) (Yl.indexAddr (ad := ⟨e22, 0, none⟩) (y := 0) (sz := 3) rfl rfl rfl (by decide) (by kernel_rfl)) fun a HF => ?_
     refine fp HF 1 9 [(177, vP e22 2)] fun a HF => ?_
     refine fo HF 10 rfl rfl ?_
     refine q4 HF HM (i := 10) rfl rfl rfl rfl (by kernel_rfl) rfl rfl (by simp) ?_
     clear HM; intro w35_10 HM
     refine qb rfl ?_
     exact ⟨(⟨4, ⟨1, 0, some ⟨e6, 0, none⟩, 1, [⟨0, 1⟩], some ⟨e17, 0, none⟩, 1, [3], some ⟨e18, 0, none⟩, 1, [5], some ⟨e20, 0, none⟩, 1, [⟨5, 0, 1024, 0, 1, true, 3072, 0⟩], some ⟨e23, 0, none⟩, 1, [⟨some ⟨e22, 0, none⟩, 1, [⟨0, 0, toU n⟩]⟩]⟩⟩ : Snm), [.blk e6 #[vI 0, vI 1] 40, .blk e17 #[vI 3] 3, .blk e18 #[vI 5] 3, .blk e20 #[vI 5, vI 0, vI 1024, vI 0, vQ 1, .bool true, vQ 3072, vW 0] 46, .blk e23 #[vS e22 1 1] 44, .blk e22 #[vQ 0, vW 0, vQ (toU n)] 43], ⟨⟨(show I64 1 from (show I64 (1) by unfold I64; decide)), (show 0 < 18446744073709551616 from (show 0 < 18446744073709551616 by decide)), qh ⟨(show I64 (0) by unfold I64; decide), (show I64 (1) by unfold I64; decide)⟩, qh (show I64 (3) by unfold I64; decide), qh (show I64 (5) by unfold I64; decide), qh ⟨(show I64 (5) by unfold I64; decide), (show I64 (0) by unfold I64; decide), (show I64 (1024) by unfold I64; decide), (show I64 (0) by unfold I64; decide), (show 1 < 18446744073709551616 by decide), (show 3072 < 18446744073709551616 by decide), (show 0 < 4294967296 by decide)⟩, qh (qh ⟨(show 0 < 18446744073709551616 by decide), (show 0 < 4294967296 by decide), (qam n)⟩)⟩, ⟨Nat.le_of_ble_eq_true rfl, Nat.le_of_ble_eq_true rfl, Nat.le_of_ble_eq_true rfl, Nat.le_of_ble_eq_true rfl, Nat.le_of_ble_eq_true rfl, qh (Nat.le_of_ble_eq_true rfl)⟩, ⟨(Nat.le_of_ble_eq_true rfl), (Nat.le_of_ble_eq_true rfl), (Nat.le_of_ble_eq_true rfl), (Nat.le_of_ble_eq_true rfl), (Nat.le_of_ble_eq_true rfl), qh (Nat.le_of_ble_eq_true rfl)⟩, fun W w fs h ht => ⟨(h.rdB (ht _ (List.mem_of_getElem? (i := 0) rfl)) rfl), (h.rdB (ht _ (List.mem_of_getElem? (i := 1) rfl)) rfl), (h.rdB (ht _ (List.mem_of_getElem? (i := 2) rfl)) rfl), (h.rdB (ht _ (List.mem_of_getElem? (i := 3) rfl)) rfl), (h.rdB (ht _ (List.mem_of_getElem? (i := 4) rfl)) rfl), qh (h.rdB (ht _ (List.mem_of_getElem? (i := 5) rfl)) rfl)⟩⟩, HF.sub (by kernel_rfl), HM.picks [0, 12, 2, 7, 8, 9, 11, 10] (by decide) rfl⟩
    have hd166 := ne_of_beq_false hb166
    refine qc HF rfl (wp_seq (qa ?_))
    refine fp HF 2 0 [(178, .bool ((k : Int) == (12 : Int)))] fun a HF => ?_
    refine qb rfl ?_
    rcases HF.tf 178 rfl with ⟨hb178, HF⟩ | ⟨hb178, HF⟩
    ·
     have hd178 := eq_of_beq hb178
     refine qd HF rfl (qa ?_)
     refine fp HF 1 0 [(180, vP g5 1)] fun a HF => ?_
     refine fy HF HM 1 rfl rfl rfl (v := vP g5 1) (Yl.nilCheck rfl rfl) fun a HF => ?_
     refine fp HF 1 2 [(182, vP g5 7)] fun a HF => ?_
     refine fy HF HM 3 rfl rfl rfl (v := vS e23 1 1) (Yl.qf rfl rfl (by kernel_rfl) (fun _ h => h.cell (i := 0) rfl (rfl))) fun a HF => ?_
     refine fy HF HM 4 rfl rfl rfl (v := vP e23 0) (Yl.indexAddr (ad := ⟨e23, 0, none⟩) (y := 0) (sz := 1) rfl rfl rfl (by decide) (by kernel_rfl)) fun a HF => ?_
     refine fy HF HM 5 rfl rfl rfl (v := vS e22 1 1) (Yl.qf rfl rfl (by kernel_rfl) (fun _ h => h.cell (i := 11) rfl rfl)) fun a HF => ?_
     refine fp HF 2 6 [(187, vQ (IntKind.u64.wrap n))] fun a HF => ?_
     replace HF := HF.sp 187 (vQ (toU n)) rfl (zb _)
     refine fy HF HM 8 rfl rfl rfl (v := vP e22 0) (Yl.indexAddr (ad := ⟨e22, 0, none⟩) (y := 0) (sz := 3) rfl rfl rfl (by decide) (by kernel_rfl)) fun a HF => ?_
     refine fp HF 1 9 [(189, vP e22 0)] fun a HF => ?_
     refine fo HF 10 rfl rfl ?_
     refine q4 HF HM (i := 10) rfl rfl rfl rfl (by kernel_rfl) rfl rfl (by simp) ?_
     clear HM; intro w37_10 HM
     refine qb rfl ?_
     exact ⟨(⟨4, ⟨1, 0, some ⟨e6, 0, none⟩, 1, [⟨0, 1⟩], some ⟨e17, 0, none⟩, 1, [3], some ⟨e18, 0, none⟩, 1, [5], some ⟨e20, 0, none⟩, 1, [⟨5, 0, 1024, 0, 1, true, 3072, 0⟩], some ⟨e23, 0, none⟩, 1, [⟨some ⟨e22, 0, none⟩, 1, [⟨toU n, 0, 3072⟩]⟩]⟩⟩ : Snm), [.blk e6 #[vI 0, vI 1] 40, .blk e17 #[vI 3] 3, .blk e18 #[vI 5] 3, .blk e20 #[vI 5, vI 0, vI 1024, vI 0, vQ 1, .bool true, vQ 3072, vW 0] 46, .blk e23 #[vS e22 1 1] 44, .blk e22 #[vQ (toU n), vW 0, vQ 3072] 43], ⟨⟨(show I64 1 from (show I64 (1) by unfold I64; decide)), (show 0 < 18446744073709551616 from (show 0 < 18446744073709551616 by decide)), qh ⟨(show I64 (0) by unfold I64; decide), (show I64 (1) by unfold I64; decide)⟩, qh (show I64 (3) by unfold I64; decide), qh (show I64 (5) by unfold I64; decide), qh ⟨(show I64 (5) by unfold I64; decide), (show I64 (0) by unfold I64; decide), (show I64 (1024) by unfold I64; decide), (show I64 (0) by unfold I64; decide), (show 1 < 18446744073709551616 by decide), (show 3072 < 18446744073709551616 by decide), (show 0 < 4294967296 by decide)⟩, qh (qh ⟨(qam n), (show 0 < 4294967296 by decide), (show 3072 < 18446744073709551616 by decide)⟩)⟩, ⟨Nat.le_of_ble_eq_true rfl, Nat.le_of_ble_eq_true rfl, Nat.le_of_ble_eq_true rfl, Nat.le_of_ble_eq_true rfl, Nat.le_of_ble_eq_true rfl, qh (Nat.le_of_ble_eq_true rfl)⟩, ⟨(Nat.le_of_ble_eq_true rfl), (Nat.le_of_ble_eq_true rfl), (Nat.le_of_ble_eq_true rfl), (Nat.le_of_ble_eq_true rfl), (Nat.le_of_ble_eq_true rfl), qh (Nat.le_of_ble_eq_true rfl)⟩, fun W w fs h ht => ⟨(h.rdB (ht _ (List.mem_of_getElem? (i := 0) rfl)) rfl), (h.rdB (ht _ (List.mem_of_getElem? (i := 1) rfl)) rfl), (h.rdB (ht _ (List.mem_of_getElem? (i := 2) rfl)) rfl), (h.rdB (ht _ (List.mem_of_getElem? (i := 3) rfl)) rfl), (h.rdB (ht _ (List.mem_of_getElem? (i := 4) rfl)) rfl), qh (h.rdB (ht _ (List.mem_of_getElem? (i := 5) rfl)) rfl)⟩⟩, HF.sub (by kernel_rfl), HM.picks [0, 12, 2, 7, 8, 9, 11, 10] (by decide) rfl⟩
    have hd178 := ne_of_beq_false hb178
    refine qc HF rfl (wp_seq (qa ?_))
    refine fp HF 2 0 [(190, .bool ((k : Int) == (13 : Int)))] fun a HF => ?_
    refine qb rfl ?_
    rcases HF.tf 190 rfl with ⟨hb190, HF⟩ | ⟨hb190, HF⟩
    ·
     have hd190 := eq_of_beq hb190
     refine qd HF rfl (wp_seq (qa ?_))
     refine fp HF 2 0 [(193, vP g5 1), (192, vP g5 1)] fun a HF => ?_
     refine fy HF HM 2 rfl rfl rfl (v := vP g5 1) (Yl.nilCheck rfl rfl) fun a HF => ?_
     refine fp HF 2 3 [(196, vP g5 3)] fun a HF => ?_
     refine fy HF HM 5 rfl rfl rfl (v := vS e6 1 1) (Yl.qf rfl rfl (by kernel_rfl) (fun _ h => h.cell (i := 0) rfl (rfl))) fun a HF => ?_
     refine fy HF HM 6 rfl rfl rfl (v := .agg #[vI 0, vI 7]) (Yl.build (vs := [(1, vI 7)]) rfl (by kernel_rfl) (by kernel_rfl)) fun a HF => ?_
     refine fo HF 7 rfl rfl ?_
     refine qt HF HM (vs := [(0, .agg #[vI 0, vI 7])]) (cs := #[vI 0, vI 7]) rfl ei_gr (by decide) rfl (by kernel_rfl) rfl (by decide) ?_
     clear HF HM; intro a w199 g199 HF HM
     refine fo HF 8 rfl rfl ?_
     refine zx HF HM (xs := ([⟨0, 1⟩] : List Gr).flatMap grL) (news := ([⟨0, 7⟩] : List Gr).flatMap grL) rfl ei_gr rfl rfl (HM.rdBlk (i := 3) (n := 1) (size := 2) rfl rfl) (HM.rdBlk (i := 0) (n := 1) (size := 2) rfl rfl) (by omega) (by omega) (fun h => by cases h) (by omega) (by omega) rfl (by decide) ?_
     clear HF HM; intro a w200 g200 c200 HF HM hc200
     refine fy HF HM 9 rfl rfl rfl (v := vP g5 1) (Yl.nilCheck rfl rfl) fun a HF => ?_
     refine fp HF 2 10 [(203, vP g5 3)] fun a HF => ?_
     refine fo HF 12 rfl rfl ?_
     refine q4 HF HM (i := 2) rfl rfl rfl rfl (by kernel_rfl) rfl rfl (by simp [Snm.cells]) ?_
     clear HM; intro w39_12 HM
     refine qb rfl (qa ?_)
     refine fp HF 2 0 [(205, vP g5 1), (204, vP g5 1)] fun a HF => ?_
     refine fy HF HM 2 rfl rfl rfl (v := vP g5 1) (Yl.nilCheck rfl rfl) fun a HF => ?_
     refine fp HF 1 3 [(207, vP g5 7)] fun a HF => ?_
     refine fy HF HM 4 rfl rfl rfl (v := vS e23 1 1) (Yl.qf rfl rfl (by kernel_rfl) (fun _ h => h.cell (i := 2) rfl rfl)) fun a HF => ?_
     refine fp HF 2 5 [(210, vQ (IntKind.u64.wrap n))] fun a HF => ?_
     replace HF := HF.sp 210 (vQ (toU n)) rfl (zb _)
     refine fp HF 2 7 [(212, vW (IntKind.u32.wrap n))] fun a HF => ?_
     replace HF := HF.sp 212 (vW (toW n)) rfl (qra _)
     refine fp HF 1 9 [(213, vW (Int.tmod (toW n : Int) 9))] fun a HF => ?_
     replace HF := HF.sp 213 (vW ((toW n) % 9 : Nat)) rfl (qaf .u32 _ 9)
     refine fp HF 2 10 [(215, vQ (IntKind.u64.wrap n))] fun a HF => ?_
     replace HF := HF.sp 215 (vQ (toU n)) rfl (zb _)
     refine fp HF 1 12 [(216, vQ (IntKind.u64.wrap (Int.tdiv (toU n : Int) 2)))] fun a HF => ?_
     replace HF := HF.sp 216 (vQ ((toU n) / 2 : Nat)) rfl (qcv .u64 2 (by show _ ≤ 18446744073709551615; omega))
     refine fy HF HM 13 rfl rfl rfl (v := .agg #[vQ (toU n), vW ((toW n) % 9 : Nat), vQ ((toU n) / 2 : Nat)]) (Yl.build (vs := [(0, vQ (toU n)), (1, vW ((toW n) % 9 : Nat)), (2, vQ ((toU n) / 2 : Nat))]) rfl (by kernel_rfl) (by kernel_rfl)) fun a HF => ?_
     refine fo HF 14 rfl rfl ?_
     refine qt HF HM (vs := [(0, .agg #[vQ (toU n), vW ((toW n) % 9 : Nat), vQ ((toU n) / 2 : Nat)])]) (cs := #[vQ (toU n), vW ((toW n) % 9 : Nat), vQ ((toU n) / 2 : Nat)]) rfl ei_sp (by decide) rfl (by kernel_rfl) rfl (by decide) ?_
     clear HF HM; intro a w218 g218 HF HM
     refine fo HF 15 rfl rfl ?_
     refine qt HF HM (vs := [(0, vS g218 1 1)]) (cs := #[vS g218 1 1]) rfl ei_rw (by decide) rfl (by kernel_rfl) rfl (by decide) ?_
     clear HF HM; intro a w219 g219 HF HM
     refine fo HF 16 rfl rfl ?_
     refine zx HF HM (xs := ([⟨some ⟨e22, 0, none⟩, 1, [⟨0, 0, 3072⟩]⟩] : List Rw).map Rw.val) (news := ([⟨some ⟨g218, 0, none⟩, 1, [⟨toU n, (toW n) % 9, (toU n) / 2⟩]⟩] : List Rw).map Rw.val) rfl ei_rw rfl rfl (HM.rdBlk (i := 15) (n := 1) (size := 1) rfl rfl) (HM.rdBlk (i := 0) (n := 1) (size := 1) rfl rfl) (by omega) (by omega) (fun h => by cases h) (by omega) (by omega) rfl (by decide) ?_
     clear HF HM; intro a w220 g220 c220 HF HM hc220
     refine fy HF HM 17 rfl rfl rfl (v := vP g5 1) (Yl.nilCheck rfl rfl) fun a HF => ?_
     refine fp HF 1 18 [(222, vP g5 7)] fun a HF => ?_
     refine fo HF 19 rfl rfl ?_
     refine q4 HF HM (i := 5) rfl rfl rfl rfl (by kernel_rfl) rfl rfl (by simp [Snm.cells]) ?_
     clear HM; intro w40_19 HM
     refine qb rfl ?_
     replace HF := HF.to [(190, .bool true), (178, .bool false), (166, .bool false), (156, .bool false), (136, .bool false), (126, .bool false), (117, .bool false), (101, .bool false), (93, .bool false), (85, .bool false), (59, .bool false), (51, .bool false), (44, .bool false), (40, .bool false), (28, vI k), (6, vP g5 1), (5, vP g5 0), (3, vI k), (21, .bool true), (20, vI k), (2, vI n), (16, vI i), (15, vI 22), (14, vS g14 22 22)]
     exact ⟨(⟨4, ⟨1, 0, some ⟨g200, 0, none⟩, c200, [⟨0, 1⟩, ⟨0, 7⟩], some ⟨e17, 0, none⟩, 1, [3], some ⟨e18, 0, none⟩, 1, [5], some ⟨e20, 0, none⟩, 1, [⟨5, 0, 1024, 0, 1, true, 3072, 0⟩], some ⟨g220, 0, none⟩, c220, [⟨some ⟨e22, 0, none⟩, 1, [⟨0, 0, 3072⟩]⟩, ⟨some ⟨g218, 0, none⟩, 1, [⟨toU n, (toW n) % 9, (toU n) / 2⟩]⟩]⟩⟩ : Snm), [.row (vS g200 (1 + 1) c200) (1 + 1) (([⟨0, 1⟩] : List Gr).flatMap grL ++ ([⟨0, 7⟩] : List Gr).flatMap grL) 40 2, .blk e17 #[vI 3] 3, .blk e18 #[vI 5] 3, .blk e20 #[vI 5, vI 0, vI 1024, vI 0, vQ 1, .bool true, vQ 3072, vW 0] 46, .row (vS g220 (1 + 1) c220) (1 + 1) (([⟨some ⟨e22, 0, none⟩, 1, [⟨0, 0, 3072⟩]⟩] : List Rw).map Rw.val ++ ([⟨some ⟨g218, 0, none⟩, 1, [⟨toU n, (toW n) % 9, (toU n) / 2⟩]⟩] : List Rw).map Rw.val) 44 1, .blk e22 #[vQ 0, vW 0, vQ 3072] 43, .blk g218 #[vQ (toU n), vW ((toW n) % 9 : Nat), vQ ((toU n) / 2 : Nat)] 43], ⟨⟨(show I64 1 from (show I64 (1) by unfold I64; decide)), (show 0 < 18446744073709551616 from (show 0 < 18446744073709551616 by decide)), qac ⟨(show I64 (0) by unfold I64; decide), (show I64 (1) by unfold I64; decide)⟩ ⟨(show I64 (0) by unfold I64; decide), (show I64 (7) by unfold I64; decide)⟩, qh (show I64 (3) by unfold I64; decide), qh (show I64 (5) by unfold I64; decide), qh ⟨(show I64 (5) by unfold I64; decide), (show I64 (0) by unfold I64; decide), (show I64 (1024) by unfold I64; decide), (show I64 (0) by unfold I64; decide), (show 1 < 18446744073709551616 by decide), (show 3072 < 18446744073709551616 by decide), (show 0 < 4294967296 by decide)⟩, qac (qh ⟨(show 0 < 18446744073709551616 by decide), (show 0 < 4294967296 by decide), (show 3072 < 18446744073709551616 by decide)⟩) (qh ⟨(qam n), (show (toW n) % 9 < 4294967296 by have := qam n; have := qmn n; omega), (show (toU n) / 2 < 18446744073709551616 by have := qam n; have := qmn n; omega)⟩)⟩, ⟨Nat.le_of_ble_eq_true rfl, Nat.le_of_ble_eq_true rfl, Nat.le_of_ble_eq_true rfl, Nat.le_of_ble_eq_true rfl, Nat.le_of_ble_eq_true rfl, qac (Nat.le_of_ble_eq_true rfl) (Nat.le_of_ble_eq_true rfl)⟩, ⟨hc200, (Nat.le_of_ble_eq_true rfl), (Nat.le_of_ble_eq_true rfl), (Nat.le_of_ble_eq_true rfl), hc220, qac (Nat.le_of_ble_eq_true rfl) (Nat.le_of_ble_eq_true rfl)⟩, fun W w fs h ht => ⟨(h.zi (ht _ (List.mem_of_getElem? (i := 0) rfl))), (h.rdB (ht _ (List.mem_of_getElem? (i := 1) rfl)) rfl), (h.rdB (ht _ (List.mem_of_getElem? (i := 2) rfl)) rfl), (h.rdB (ht _ (List.mem_of_getElem? (i := 3) rfl)) rfl), (h.zi (ht _ (List.mem_of_getElem? (i := 4) rfl))), qac (h.rdB (ht _ (List.mem_of_getElem? (i := 5) rfl)) rfl) (h.rdB (ht _ (List.mem_of_getElem? (i := 6) rfl)) rfl)⟩⟩, HF.sub (by kernel_rfl), HM.picks [5, 17, 3, 12, 13, 14, 0, 15, 2] (by decide) rfl⟩
    have hd190 := ne_of_beq_false hb190
    refine qc HF rfl (wp_seq (qa ?_))
    refine fp HF 2 0 [(223, .bool ((k : Int) == (14 : Int)))] fun a HF => ?_
    refine qb rfl ?_
    rcases HF.tf 223 rfl with ⟨hb223, HF⟩ | ⟨hb223, HF⟩
    ·
     have hd223 := eq_of_beq hb223
     refine qd HF rfl (qa ?_)
     refine fp HF 1 0 [(225, vP g5 1)] fun a HF => ?_
     refine fy HF HM 1 rfl rfl rfl (v := vP g5 1) (Yl.nilCheck rfl rfl) fun a HF => ?_
     refine fp HF 2 2 [(228, vP g5 3)] fun a HF => ?_
     refine fy HF HM 4 rfl rfl rfl (v := vS e6 1 1) (Yl.qf rfl rfl (by kernel_rfl) (fun _ h => h.cell (i := 0) rfl (rfl))) fun a HF => ?_
     refine fp HF 1 5 [(230, vI n)] fun a HF => ?_
     refine fy HF HM 6 rfl rfl rfl (v := vP e6 0) (Yl.indexAddr (ad := ⟨e6, 0, none⟩) (y := 0) (sz := 2) rfl rfl rfl (by decide) (by kernel_rfl)) fun a HF => ?_
     refine fp HF 1 7 [(232, vP e6 1)] fun a HF => ?_
     refine fo HF 8 rfl rfl ?_
     refine q4 HF HM (i := 2) rfl rfl rfl rfl (by kernel_rfl) rfl rfl (by simp) ?_
     clear HM; intro w42_8 HM
     refine qb rfl ?_
     exact ⟨(⟨4, ⟨1, 0, some ⟨e6, 0, none⟩, 1, [⟨0, n⟩], some ⟨e17, 0, none⟩, 1, [3], some ⟨e18, 0, none⟩, 1, [5], some ⟨e20, 0, none⟩, 1, [⟨5, 0, 1024, 0, 1, true, 3072, 0⟩], some ⟨e23, 0, none⟩, 1, [⟨some ⟨e22, 0, none⟩, 1, [⟨0, 0, 3072⟩]⟩]⟩⟩ : Snm), [.blk e6 #[vI 0, vI n] 40, .blk e17 #[vI 3] 3, .blk e18 #[vI 5] 3, .blk e20 #[vI 5, vI 0, vI 1024, vI 0, vQ 1, .bool true, vQ 3072, vW 0] 46, .blk e23 #[vS e22 1 1] 44, .blk e22 #[vQ 0, vW 0, vQ 3072] 43], ⟨⟨(show I64 1 from (show I64 (1) by unfold I64; decide)), (show 0 < 18446744073709551616 from (show 0 < 18446744073709551616 by decide)), qh ⟨(show I64 (0) by unfold I64; decide), hn⟩, qh (show I64 (3) by unfold I64; decide), qh (show I64 (5) by unfold I64; decide), qh ⟨(show I64 (5) by unfold I64; decide), (show I64 (0) by unfold I64; decide), (show I64 (1024) by unfold I64; decide), (show I64 (0) by unfold I64; decide), (show 1 < 18446744073709551616 by decide), (show 3072 < 18446744073709551616 by decide), (show 0 < 4294967296 by decide)⟩, qh (qh ⟨(show 0 < 18446744073709551616 by decide), (show 0 < 4294967296 by decide), (show 3072 < 18446744073709551616 by decide)⟩)⟩, ⟨Nat.le_of_ble_eq_true rfl, Nat.le_of_ble_eq_true rfl, Nat.le_of_ble_eq_true rfl, Nat.le_of_ble_eq_true rfl, Nat.le_of_ble_eq_true rfl, qh (Nat.le_of_ble_eq_true rfl)⟩, ⟨(Nat.le_of_ble_eq_true rfl), (Nat.le_of_ble_eq_true rfl), (Nat.le_of_ble_eq_true rfl), (Nat.le_of_ble_eq_true rfl), (Nat.le_of_ble_eq_true rfl), qh (Nat.le_of_ble_eq_true rfl)⟩, fun W w fs h ht => ⟨(h.rdB (ht _ (List.mem_of_getElem? (i := 0) rfl)) rfl), (h.rdB (ht _ (List.mem_of_getElem? (i := 1) rfl)) rfl), (h.rdB (ht _ (List.mem_of_getElem? (i := 2) rfl)) rfl), (h.rdB (ht _ (List.mem_of_getElem? (i := 3) rfl)) rfl), (h.rdB (ht _ (List.mem_of_getElem? (i := 4) rfl)) rfl), qh (h.rdB (ht _ (List.mem_of_getElem? (i := 5) rfl)) rfl)⟩⟩, HF.sub (by kernel_rfl), HM.picks [0, 12, 2, 7, 8, 9, 11, 10] (by decide) rfl⟩
    have hd223 := ne_of_beq_false hb223
    refine qc HF rfl (qa ?_)
    refine fp HF 2 0 [(30, vP g5 1), (29, vP g5 1)] fun a HF => ?_
    refine fy HF HM 2 rfl rfl rfl (v := vP g5 1) (Yl.nilCheck rfl rfl) fun a HF => ?_
    refine fp HF 1 3 [(32, vP g5 6)] fun a HF => ?_
    refine fy HF HM 4 rfl rfl rfl (v := vS e20 1 1) (Yl.qf rfl rfl (by kernel_rfl) (fun _ h => h.cell (i := 0) rfl (rfl))) fun a HF => ?_
    refine fp HF 1 5 [(34, vI n)] fun a HF => ?_
    refine fy HF HM 6 rfl rfl rfl (v := .agg #[vI n, vI 0, vI 1, vI 0, vQ 1, .bool false, vQ 0, vW 0]) (Yl.build (vs := [(0, vI n), (2, vI 1), (4, vQ 1), (3, vI 0)]) rfl (by kernel_rfl) (by kernel_rfl)) fun a HF => ?_
    refine fo HF 7 rfl rfl ?_
    refine qt HF HM (vs := [(0, .agg #[vI n, vI 0, vI 1, vI 0, vQ 1, .bool false, vQ 0, vW 0])]) (cs := #[vI n, vI 0, vI 1, vI 0, vQ 1, .bool false, vQ 0, vW 0]) rfl ei_tk (by decide) rfl (by kernel_rfl) rfl (by decide) ?_
    clear HF HM; intro a w36 g36 HF HM
    refine fo HF 8 rfl rfl ?_
    refine zx HF HM (xs := ([⟨5, 0, 1024, 0, 1, true, 3072, 0⟩] : List Tk).flatMap tkL) (news := ([⟨n, 0, 1, 0, 1, false, 0, 0⟩] : List Tk).flatMap tkL) rfl ei_tk rfl rfl (HM.rdBlk (i := 10) (n := 1) (size := 8) rfl rfl) (HM.rdBlk (i := 0) (n := 1) (size := 8) rfl rfl) (by omega) (by omega) (fun h => by cases h) (by omega) (by omega) rfl (by decide) ?_
    clear HF HM; intro a w37 g37 c37 HF HM hc37
    refine fy HF HM 9 rfl rfl rfl (v := vP g5 1) (Yl.nilCheck rfl rfl) fun a HF => ?_
    refine fp HF 1 10 [(39, vP g5 6)] fun a HF => ?_
    refine fo HF 11 rfl rfl ?_
    refine q4 HF HM (i := 2) rfl rfl rfl rfl (by kernel_rfl) rfl rfl (by simp [Snm.cells]) ?_
    clear HM; intro w10_11 HM
    refine qb rfl ?_
    exact ⟨(⟨4, ⟨1, 0, some ⟨e6, 0, none⟩, 1, [⟨0, 1⟩], some ⟨e17, 0, none⟩, 1, [3], some ⟨e18, 0, none⟩, 1, [5], some ⟨g37, 0, none⟩, c37, [⟨5, 0, 1024, 0, 1, true, 3072, 0⟩, ⟨n, 0, 1, 0, 1, false, 0, 0⟩], some ⟨e23, 0, none⟩, 1, [⟨some ⟨e22, 0, none⟩, 1, [⟨0, 0, 3072⟩]⟩]⟩⟩ : Snm), [.blk e6 #[vI 0, vI 1] 40, .blk e17 #[vI 3] 3, .blk e18 #[vI 5] 3, .row (vS g37 (1 + 1) c37) (1 + 1) (([⟨5, 0, 1024, 0, 1, true, 3072, 0⟩] : List Tk).flatMap tkL ++ ([⟨n, 0, 1, 0, 1, false, 0, 0⟩] : List Tk).flatMap tkL) 46 8, .blk e23 #[vS e22 1 1] 44, .blk e22 #[vQ 0, vW 0, vQ 3072] 43], ⟨⟨(show I64 1 from (show I64 (1) by unfold I64; decide)), (show 0 < 18446744073709551616 from (show 0 < 18446744073709551616 by decide)), qh ⟨(show I64 (0) by unfold I64; decide), (show I64 (1) by unfold I64; decide)⟩, qh (show I64 (3) by unfold I64; decide), qh (show I64 (5) by unfold I64; decide), qac ⟨(show I64 (5) by unfold I64; decide), (show I64 (0) by unfold I64; decide), (show I64 (1024) by unfold I64; decide), (show I64 (0) by unfold I64; decide), (show 1 < 18446744073709551616 by decide), (show 3072 < 18446744073709551616 by decide), (show 0 < 4294967296 by decide)⟩ ⟨hn, (show I64 (0) by unfold I64; decide), (show I64 (1) by unfold I64; decide), (show I64 (0) by unfold I64; decide), (show 1 < 18446744073709551616 by decide), (show 0 < 18446744073709551616 by decide), (show 0 < 4294967296 by decide)⟩, qh (qh ⟨(show 0 < 18446744073709551616 by decide), (show 0 < 4294967296 by decide), (show 3072 < 18446744073709551616 by decide)⟩)⟩, ⟨Nat.le_of_ble_eq_true rfl, Nat.le_of_ble_eq_true rfl, Nat.le_of_ble_eq_true rfl, Nat.le_of_ble_eq_true rfl, Nat.le_of_ble_eq_true rfl, qh (Nat.le_of_ble_eq_true rfl)⟩, ⟨(Nat.le_of_ble_eq_true rfl), (Nat.le_of_ble_eq_true rfl), (Nat.le_of_ble_eq_true rfl), hc37, (Nat.le_of_ble_eq_true rfl), qh (Nat.le_of_ble_eq_true rfl)⟩, fun W w fs h ht => ⟨(h.rdB (ht _ (List.mem_of_getElem? (i := 0) rfl)) rfl), (h.rdB (ht _ (List.mem_of_getElem? (i := 1) rfl)) rfl), (h.rdB (ht _ (List.mem_of_getElem? (i := 2) rfl)) rfl), (h.zi (ht _ (List.mem_of_getElem? (i := 3) rfl))), (h.rdB (ht _ (List.mem_of_getElem? (i := 4) rfl)) rfl), qh (h.rdB (ht _ (List.mem_of_getElem? (i := 5) rfl)) rfl)⟩⟩, HF.sub (by kernel_rfl), HM.picks [2, 14, 4, 9, 10, 0, 13, 12] (by decide) rfl⟩
   clear HF HM; rintro a w_ ⟨S, T, hS, HF, HM⟩
   refine wp_seq (qa ?_)
   refine fo HF 0 rfl rfl ?_
   refine e_cl HF [] rfl rfl (qce _) ?_
   rintro _ w234 ⟨f6, f9, f10, f12, f13, f17, f18, f20, f22, f23, rfl, hm⟩
   refine ⟨_, rfl, ?_⟩
   replace HM := HM.join hm
   clear HF; intro a HF
   refine fp HF 3 1 [(236, .agg ((exB f6 f17 f18 f20 f22 f23).cells)), (235, .agg ((exA f6 f9 f10 f12 f13).cells))] fun a HF => ?_
   refine fo HF 4 rfl rfl ?_
   refine qs HF HM (cs := #[vI 0, vI 0, vQ 0, .slice none 0 0, .slice none 0 0, .slice none 0 0, .slice none 0 0, .slice none 0 0]) rfl (by kernel_rfl) rfl (by decide) ?_
   clear HF HM; intro a w7 g7 HF HM
   refine fo HF 5 rfl rfl ?_
   refine qs HF HM (cs := #[vI 0, vI 0, vQ 0, .slice none 0 0, .slice none 0 0, .slice none 0 0, .slice none 0 0, .slice none 0 0]) rfl (by kernel_rfl) rfl (by decide) ?_
   clear HF HM; intro a w8 g8 HF HM
   refine fo HF 6 rfl rfl ?_
   refine e_sa HF HM 1 rfl rfl rfl rfl rfl qx rfl rfl (qa6 (exA f6 f9 f10 f12 f13)) ?_
   clear HM; intro w43_6 HM
   refine fo HF 7 rfl rfl ?_
   refine e_sa HF HM 0 rfl rfl rfl rfl rfl qx rfl rfl (qa6 (exB f6 f17 f18 f20 f22 f23)) ?_
   clear HM; intro w43_7 HM
   refine qb rfl (wp_seq (qa ?_))
   refine fy HF HM 0 rfl rfl rfl (v := .agg S.cells) (Yl.qr rfl rfl qx rfl (fun _ h => qe (h.blk (i := 12) rfl))) fun a HF => ?_
   replace HF := HF.sp 237 (.agg S.cells) rfl (rfl)
   refine fy HF HM 1 rfl rfl rfl (v := .agg ((exB f6 f17 f18 f20 f22 f23).cells)) (Yl.qr rfl rfl qx rfl (fun _ h => qe (h.blk (i := 0) rfl))) fun a HF => ?_
   refine fo HF 2 rfl rfl ?_
   refine e_is HF HM [.agg S.cells, .agg ((exB f6 f17 f18 f20 f22 f23).cells)] (.bool true) rfl rfl (z3 S (exB f6 f17 f18 f20 f22 f23) hS.ok hS.few hS.cap qct B _ (hL.mem HM hB) (HM.le hB) (hS.at HM 14 rfl) (qfy (HM.blk (i := 2) rfl) (HM.blk (i := 7) rfl) (HM.blk (i := 8) rfl) (HM.blk (i := 9) rfl) (HM.blk (i := 10) rfl) (HM.blk (i := 11) rfl))) fun w239 hbw HM a HF => ?_
   refine fp HF 2 3 [(241, .bool false)] fun a HF => ?_
   refine fy HF HM 5 rfl rfl rfl (v := .agg ((exB f6 f17 f18 f20 f22 f23).cells)) (Yl.qr rfl rfl qx rfl (fun _ h => qe (h.blk (i := 0) rfl))) fun a HF => ?_
   refine fy HF HM 6 rfl rfl rfl (v := .agg S.cells) (Yl.qr rfl rfl qx rfl (fun _ h => qe (h.blk (i := 12) rfl))) fun a HF => ?_
   replace HF := HF.sp 243 (.agg S.cells) rfl (rfl)
   refine fo HF 7 rfl rfl ?_
   refine e_is HF HM [.agg ((exB f6 f17 f18 f20 f22 f23).cells), .agg S.cells] (.bool true) rfl rfl (z3 (exB f6 f17 f18 f20 f22 f23) S qq4 qct qk3 hS.few B _ (hL.mem HM hB) (HM.le hB) (qfy (HM.blk (i := 2) rfl) (HM.blk (i := 7) rfl) (HM.blk (i := 8) rfl) (HM.blk (i := 9) rfl) (HM.blk (i := 10) rfl) (HM.blk (i := 11) rfl)) (hS.at HM 14 rfl)) fun w244 hbw HM a HF => ?_
   refine fp HF 2 8 [(246, .bool false)] fun a HF => ?_
   refine qb rfl (qc HF rfl (wp_skip (qa ?_)))
   refine fp HF 1 0 [(247, vI (IntKind.i64.wrap ((k : Int) + 1)))] fun a HF => ?_
   replace HF := HF.sp 247 (vI (k + 1 : Nat)) rfl (qi (by omega) (by omega))
   refine fp HF 1 1 [(20, vI (k + 1 : Nat))] fun a HF => ?_
   refine qb rfl ?_
   exact ⟨_, (by omega), k + 1, by omega, rfl, HF.sub (by kernel_rfl), HM.picks [13] (by decide) rfl⟩
  have hd21 := of_decide_eq_false hb21
  refine qc HF rfl (wp_exit (qa ?_))
  refine fp HF 1 0 [(248, vI (IntKind.i64.wrap ((i : Int) + 1)))] fun a HF => ?_
  replace HF := HF.sp 248 (vI (i + 1 : Nat)) rfl (qi (by omega) (by omega))
  refine fp HF 1 1 [(16, vI (i + 1 : Nat))] fun a HF => ?_
  refine qb rfl ?_
  exact ⟨_, (by omega), i + 1, by omega, rfl, HF.sub (by kernel_rfl), HM.picks [0] (by decide) rfl⟩
 have hd17 := of_decide_eq_false hb17
 refine qc HF rfl (wp_exit (wp_seq (qa ?_)))
 refine fo HF 0 rfl rfl ?_
 refine e_cl HF [] rfl rfl (qce _) ?_
 rintro _ w250 ⟨e6, e9, e10, e12, e13, e17, e18, e20, e22, e23, rfl, hm⟩
 refine ⟨_, rfl, ?_⟩
 replace HM := HM.join hm
 clear HF; intro a HF
 refine fp HF 3 1 [(252, .agg ((exB e6 e17 e18 e20 e22 e23).cells)), (251, .agg ((exA e6 e9 e10 e12 e13).cells))] fun a HF => ?_
 refine fo HF 4 rfl rfl ?_
 refine qs HF HM (cs := #[vI 0, vI 0, vQ 0, .slice none 0 0, .slice none 0 0, .slice none 0 0, .slice none 0 0, .slice none 0 0]) rfl (by kernel_rfl) rfl (by decide) ?_
 clear HF HM; intro a w9 g9 HF HM
 refine fo HF 5 rfl rfl ?_
 refine qs HF HM (cs := #[vI 0, vI 0, vQ 0, .slice none 0 0, .slice none 0 0, .slice none 0 0, .slice none 0 0, .slice none 0 0]) rfl (by kernel_rfl) rfl (by decide) ?_
 clear HF HM; intro a w10 g10 HF HM
 refine fo HF 6 rfl rfl ?_
 refine e_sa HF HM 1 rfl rfl rfl rfl rfl qx rfl rfl (qa6 (exA e6 e9 e10 e12 e13)) ?_
 clear HM; intro w48_6 HM
 refine fo HF 7 rfl rfl ?_
 refine e_sa HF HM 0 rfl rfl rfl rfl rfl qx rfl rfl (qa6 (exB e6 e17 e18 e20 e22 e23)) ?_
 clear HM; intro w48_7 HM
 refine qb rfl (wp_seq (wp_seq (qa ?_)))
 refine fp HF 1 0 [(253, vI 0)] fun a HF => ?_
 refine qb rfl (wp_block ?_)
 refine qo (fun mS aS wS => ∃ (m : Nat), (m ≤ 8) ∧ mS = 8 - m ∧ Fr aS 353 [] [(253, vI m), (10, vP g10 0), (9, vP g9 0)] ∧ Mem w wS [.blk g10 ((exB e6 e17 e18 e20 e22 e23).cells) 32, .blk g9 ((exA e6 e9 e10 e12 e13).cells) 32, .blk e6 #[vI 0, vI 1] 40, .blk e9 #[vI 0] 3, .blk e10 #[vI 0] 3, .blk e12 #[vQ 0, vW 0, vQ 0] 43, .blk e13 #[vS e12 1 1] 44, .blk e17 #[vI 3] 3, .blk e18 #[vI 5] 3, .blk e20 #[vI 5, vI 0, vI 1024, vI 0, vQ 1, .bool true, vQ 3072, vW 0] 46, .blk e22 #[vQ 0, vW 0, vQ 3072] 43, .blk e23 #[vS e22 1 1] 44]) (m := 8 - 0) ⟨0, Nat.zero_le _, rfl, HF.sub (by kernel_rfl), HM.picks [0, 1, 2, 3, 4, 5, 6, 7, 8, 9, 10, 11] (by decide) rfl⟩ ?_
 clear HF HM; rintro mS a w_ ⟨m, hm, rfl, HF, HM⟩
 refine wp_seq (qa ?_)
 refine fp HF 1 0 [(254, .bool (decide ((m : Int) < (8 : Int))))] fun a HF => ?_
 refine qb rfl (wp_seq ?_)
 rcases HF.tf 254 rfl with ⟨hb254, HF⟩ | ⟨hb254, HF⟩
 ·
  have hd254 := of_decide_eq_true hb254
  refine qd HF rfl (wp_skip (wp_seq (wp_block (wp_seq (qa ?_)))))
  refine fp HF 2 0 [(11, vI m)] fun a HF => ?_
  refine qb rfl (wp_seq (qa ?_))
  refine fp HF 1 0 [(256, vP g10 1)] fun a HF => ?_
  refine fy HF HM 1 rfl rfl rfl (v := .agg #[vI 1, vQ 0, vS e6 1 1, vS e17 1 1, vS e18 1 1, vS e20 1 1, vS e23 1 1]) (Yl.qr rfl rfl si_st rfl (fun _ h => h.sub (i := 0) rfl 1 rfl)) fun a HF => ?_
  refine fo HF 2 rfl rfl ?_
  refine e_cl HF [.agg #[vI 1, vQ 0, vS e6 1 1, vS e17 1 1, vS e18 1 1, vS e20 1 1, vS e23 1 1]] rfl rfl (qrc (a := e6) (b := e17) (c := e18) (d := e20) (e := e22) (f := e23) _ (qfy (HM.blk (i := 2) rfl) (HM.blk (i := 7) rfl) (HM.blk (i := 8) rfl) (HM.blk (i := 9) rfl) (HM.blk (i := 10) rfl) (HM.blk (i := 11) rfl))) ?_
  rintro _ w258 ⟨gA, lA, uA, tA, sA, rA, gc, lc, uc, tc, sc, rc, rfl, hgc, hlc, huc, htc, hsc, hrc, hm⟩
  refine ⟨_, rfl, ?_⟩
  replace HM := HM.join hm
  clear HF; intro a HF
  refine fy HF HM 3 rfl rfl rfl (v := .agg #[vI 9, vI 1, vQ 0, .slice gA 1 gc, .slice lA 1 lc, .slice uA 1 uc, .slice tA 1 tc, .slice sA 1 sc]) (Yl.build (vs := [(0, vI 9), (1, .agg #[vI 1, vQ 0, .slice gA 1 gc, .slice lA 1 lc, .slice uA 1 uc, .slice tA 1 tc, .slice sA 1 sc])]) rfl (by kernel_rfl) (by kernel_rfl)) fun a HF => ?_
  refine fo HF 4 rfl rfl ?_
  refine qs HF HM (cs := #[vI 0, vI 0, vQ 0, .slice none 0 0, .slice none 0 0, .slice none 0 0, .slice none 0 0, .slice none 0 0]) rfl (by kernel_rfl) rfl (by decide) ?_
  clear HF HM; intro a w12 g12 HF HM
  refine fo HF 5 rfl rfl ?_
  refine e_sa HF HM 0 rfl rfl rfl rfl rfl qx rfl rfl (by simp [Value.oneCell']) ?_
  clear HM; intro w52_5 HM
  refine qb rfl (wp_seq (qa ?_))
  refine fp HF 2 0 [(13, vP g12 1)] fun a HF => ?_
  refine qb rfl (wp_seq (wp_seq (qa ?_)))
  refine fp HF 1 0 [(261, vI m)] fun a HF => ?_
  refine qb rfl ?_
  refine qq8 (fun aS wS => ∃ (S : Snm) (T : List Fact), (SnGood T S) ∧ Fr aS 353 [] [(12, vP g12 0), (11, vI m), (253, vI m), (10, vP g10 0), (9, vP g9 0)] ∧ Mem w wS (.blk g12 S.cells 32 :: .blk g10 ((exB e6 e17 e18 e20 e22 e23).cells) 32 :: .blk g9 ((exA e6 e9 e10 e12 e13).cells) 32 :: .blk e6 #[vI 0, vI 1] 40 :: .blk e9 #[vI 0] 3 :: .blk e10 #[vI 0] 3 :: .blk e12 #[vQ 0, vW 0, vQ 0] 43 :: .blk e13 #[vS e12 1 1] 44 :: .blk e17 #[vI 3] 3 :: .blk e18 #[vI 5] 3 :: .blk e20 #[vI 5, vI 0, vI 1024, vI 0, vQ 1, .bool true, vQ 3072, vW 0] 46 :: .blk e22 #[vQ 0, vW 0, vQ 3072] 43 :: .blk e23 #[vS e22 1 1] 44 :: T)) ?_ ?_
  ·
   refine wp_block (wp_seq (qa ?_))
   refine fp HF 2 0 [(273, .bool ((m : Int) == (0 : Int)))] fun a HF => ?_
   refine qb rfl ?_
   rcases HF.tf 273 rfl with ⟨hb273, HF⟩ | ⟨hb273, HF⟩
   ·
    have hd273 := eq_of_beq hb273
    refine qd HF rfl (qa ?_)
    refine fp HF 1 0 [(275, vP g12 1)] fun a HF => ?_
    refine fy HF HM 1 rfl rfl rfl (v := vP g12 1) (Yl.nilCheck rfl rfl) fun a HF => ?_
    refine fp HF 1 2 [(277, vP g12 4)] fun a HF => ?_
    refine fo HF 3 rfl rfl ?_
    refine q4 HF HM (i := 0) rfl rfl rfl rfl (by kernel_rfl) rfl rfl (by simp) ?_
    clear HM; intro w57_3 HM
    refine qb rfl ?_
    exact ⟨(⟨9, ⟨1, 0, gA, gc, [⟨0, 1⟩], none, 0, [], uA, uc, [5], tA, tc, [⟨5, 0, 1024, 0, 1, true, 3072, 0⟩], sA, sc, [⟨rA, rc, [⟨0, 0, 3072⟩]⟩]⟩⟩ : Snm), [.row (.slice gA 1 gc) 1 ([⟨0, 1⟩].flatMap grL) 40 2, .row (.slice uA 1 uc) 1 ([5].map I64i) 3 1, .row (.slice tA 1 tc) 1 ([⟨5, 0, 1024, 0, 1, true, 3072, 0⟩].flatMap tkL) 46 8, .row (.slice sA 1 sc) 1 ([(⟨rA, rc, [⟨0, 0, 3072⟩]⟩ : Rw)].map Rw.val) 44 1, .row (.slice rA 1 rc) 1 ([⟨0, 0, 3072⟩].flatMap spL) 43 3], ⟨⟨(show I64 1 from (show I64 (1) by unfold I64; decide)), (show 0 < 18446744073709551616 from (show 0 < 18446744073709551616 by decide)), qh ⟨(show I64 (0) by unfold I64; decide), (show I64 (1) by unfold I64; decide)⟩, qbf, qh (show I64 (5) by unfold I64; decide), qh ⟨(show I64 (5) by unfold I64; decide), (show I64 (0) by unfold I64; decide), (show I64 (1024) by unfold I64; decide), (show I64 (0) by unfold I64; decide), (show 1 < 18446744073709551616 by decide), (show 3072 < 18446744073709551616 by decide), (show 0 < 4294967296 by decide)⟩, qh (qh ⟨(show 0 < 18446744073709551616 by decide), (show 0 < 4294967296 by decide), (show 3072 < 18446744073709551616 by decide)⟩)⟩, ⟨Nat.le_of_ble_eq_true rfl, Nat.le_of_ble_eq_true rfl, Nat.le_of_ble_eq_true rfl, Nat.le_of_ble_eq_true rfl, Nat.le_of_ble_eq_true rfl, qh (Nat.le_of_ble_eq_true rfl)⟩, ⟨hgc, (Nat.le_of_ble_eq_true rfl), huc, htc, hsc, qh hrc⟩, fun W w fs h ht => ⟨(h.zi (ht _ (List.mem_of_getElem? (i := 0) rfl))), Rd.nil, (h.zi (ht _ (List.mem_of_getElem? (i := 1) rfl))), (h.zi (ht _ (List.mem_of_getElem? (i := 2) rfl))), (h.zi (ht _ (List.mem_of_getElem? (i := 3) rfl))), qh (h.zi (ht _ (List.mem_of_getElem? (i := 4) rfl)))⟩⟩, HF.sub (by kernel_rfl), HM.picks [0, 7, 8, 9, 10, 11, 12, 13, 14, 15, 16, 17, 18, 1, 3, 4, 5, 6] (by decide) rfl⟩
   have hd273 := ne_of_beq_false hb273
   refine qc HF rfl (wp_seq (qa ?_))
   refine fp HF 2 0 [(278, .bool ((m : Int) == (1 : Int)))] fun a HF => ?_
   refine qb rfl ?_
   rcases HF.tf 278 rfl with ⟨hb278, HF⟩ | ⟨hb278, HF⟩
   ·
    have hd278 := eq_of_beq hb278
    refine qd HF rfl (qa ?_)
    refine fp HF 2 0 [(281, vP g12 1), (280, vP g12 1)] fun a HF => ?_
    refine fy HF HM 2 rfl rfl rfl (v := vP g12 1) (Yl.nilCheck rfl rfl) fun a HF => ?_
    refine fp HF 1 3 [(283, vP g12 5)] fun a HF => ?_
    refine fy HF HM 4 rfl rfl rfl (v := .slice uA 1 uc) (Yl.qf rfl rfl (by kernel_rfl) (fun _ h => h.cell (i := 0) rfl rfl)) fun a HF => ?_
    refine fo HF 5 rfl rfl ?_
    refine qt HF HM (vs := [(0, vI 0)]) (cs := #[vI 0]) rfl qa9 (by decide) rfl (by kernel_rfl) rfl (by decide) ?_
    clear HF HM; intro a w285 g285 HF HM
    refine fo HF 6 rfl rfl ?_
    refine qw HF HM (i := 4) rfl qa9 rfl rfl rfl (news := ([0] : List Int).map I64i) (HM.rdBlk (i := 0) (n := 1) (size := 1) rfl rfl) (qpu _) (by omega) (by omega) rfl (by decide) ?_
    clear HF HM; intro a w286 A286 c286 HF HM hc286
    refine fy HF HM 7 rfl rfl rfl (v := vP g12 1) (Yl.nilCheck rfl rfl) fun a HF => ?_
    refine fp HF 1 8 [(288, vP g12 5)] fun a HF => ?_
    refine fo HF 9 rfl rfl ?_
    refine q4 HF HM (i := 1) rfl rfl rfl rfl (by kernel_rfl) rfl rfl (by simp) ?_
    clear HM; intro w59_9 HM
    refine qb rfl ?_
    exact ⟨(⟨9, ⟨1, 0, gA, gc, [⟨0, 1⟩], lA, lc, [3], A286, c286, [5, 0], tA, tc, [⟨5, 0, 1024, 0, 1, true, 3072, 0⟩], sA, sc, [⟨rA, rc, [⟨0, 0, 3072⟩]⟩]⟩⟩ : Snm), [.row (.slice gA 1 gc) 1 ([⟨0, 1⟩].flatMap grL) 40 2, .row (.slice lA 1 lc) 1 ([3].map I64i) 3 1, .row (.slice A286 (1 + 1) c286) (1 + 1) (([5].map I64i) ++ (([0] : List Int).map I64i)) 3 1, .row (.slice tA 1 tc) 1 ([⟨5, 0, 1024, 0, 1, true, 3072, 0⟩].flatMap tkL) 46 8, .row (.slice sA 1 sc) 1 ([(⟨rA, rc, [⟨0, 0, 3072⟩]⟩ : Rw)].map Rw.val) 44 1, .row (.slice rA 1 rc) 1 ([⟨0, 0, 3072⟩].flatMap spL) 43 3], ⟨⟨(show I64 1 from (show I64 (1) by unfold I64; decide)), (show 0 < 18446744073709551616 from (show 0 < 18446744073709551616 by decide)), qh ⟨(show I64 (0) by unfold I64; decide), (show I64 (1) by unfold I64; decide)⟩, qh (show I64 (3) by unfold I64; decide), qac (show I64 (5) by unfold I64; decide) (show I64 (0) by unfold I64; decide), qh ⟨(show I64 (5) by unfold I64; decide), (show I64 (0) by unfold I64; decide), (show I64 (1024) by unfold I64; decide), (show I64 (0) by unfold I64; decide), (show 1 < 18446744073709551616 by decide), (show 3072 < 18446744073709551616 by decide), (show 0 < 4294967296 by decide)⟩, qh (qh ⟨(show 0 < 18446744073709551616 by decide), (show 0 < 4294967296 by decide), (show 3072 < 18446744073709551616 by decide)⟩)⟩, ⟨Nat.le_of_ble_eq_true rfl, Nat.le_of_ble_eq_true rfl, Nat.le_of_ble_eq_true rfl, Nat.le_of_ble_eq_true rfl, Nat.le_of_ble_eq_true rfl, qh (Nat.le_of_ble_eq_true rfl)⟩, ⟨hgc, hlc, hc286, htc, hsc, qh hrc⟩, fun W w fs h ht => ⟨(h.zi (ht _ (List.mem_of_getElem? (i := 0) rfl))), (h.zi (ht _ (List.mem_of_getElem? (i := 1) rfl))), (h.zi (ht _ (List.mem_of_getElem? (i := 2) rfl))), (h.zi (ht _ (List.mem_of_getElem? (i := 3) rfl))), (h.zi (ht _ (List.mem_of_getElem? (i := 4) rfl))), qh (h.zi (ht _ (List.mem_of_getElem? (i := 5) rfl)))⟩⟩, HF.sub (by kernel_rfl), HM.picks [1, 8, 9, 10, 11, 12, 13, 14, 15, 16, 17, 18, 19, 2, 3, 4, 5, 6, 7] (by decide) rfl⟩
   have hd278 := ne_of_beq_false hb278
   refine qc HF rfl (wp_seq (qa ?_))
   refine fp HF 2 0 [(289, .bool ((m : Int) == (2 : Int)))] fun a HF => ?_
   refine qb rfl ?_
   rcases HF.tf 289 rfl with ⟨hb289, HF⟩ | ⟨hb289, HF⟩
   ·
    have hd289 := eq_of_beq hb289
    refine qd HF rfl (qa ?_)
    refine fp HF 1 0 [(291, vP g12 1)] fun a HF => ?_
    refine fy HF HM 1 rfl rfl rfl (v := vP g12 1) (Yl.nilCheck rfl rfl) fun a HF => ?_
    refine fp HF 1 2 [(293, vP g12 7)] fun a HF => ?_
    refine fo HF 3 rfl rfl ?_
    refine q4 HF HM (i := 0) rfl rfl rfl rfl (by kernel_rfl) rfl rfl (by simp) ?_
    clear HM; intro w61_3 HM
    refine qb rfl ?_
    exact ⟨(⟨9, ⟨1, 0, gA, gc, [⟨0, 1⟩], lA, lc, [3], uA, uc, [5], tA, tc, [⟨5, 0, 1024, 0, 1, true, 3072, 0⟩], none, 0, []⟩⟩ : Snm), [.row (.slice gA 1 gc) 1 ([⟨0, 1⟩].flatMap grL) 40 2, .row (.slice lA 1 lc) 1 ([3].map I64i) 3 1, .row (.slice uA 1 uc) 1 ([5].map I64i) 3 1, .row (.slice tA 1 tc) 1 ([⟨5, 0, 1024, 0, 1, true, 3072, 0⟩].flatMap tkL) 46 8], ⟨⟨(show I64 1 from (show I64 (1) by unfold I64; decide)), (show 0 < 18446744073709551616 from (show 0 < 18446744073709551616 by decide)), qh ⟨(show I64 (0) by unfold I64; decide), (show I64 (1) by unfold I64; decide)⟩, qh (show I64 (3) by unfold I64; decide), qh (show I64 (5) by unfold I64; decide), qh ⟨(show I64 (5) by unfold I64; decide), (show I64 (0) by unfold I64; decide), (show I64 (1024) by unfold I64; decide), (show I64 (0) by unfold I64; decide), (show 1 < 18446744073709551616 by decide), (show 3072 < 18446744073709551616 by decide), (show 0 < 4294967296 by decide)⟩, qbf⟩, ⟨Nat.le_of_ble_eq_true rfl, Nat.le_of_ble_eq_true rfl, Nat.le_of_ble_eq_true rfl, Nat.le_of_ble_eq_true rfl, Nat.le_of_ble_eq_true rfl, qbf⟩, ⟨hgc, hlc, huc, htc, (Nat.le_of_ble_eq_true rfl), qbf⟩, fun W w fs h ht => ⟨(h.zi (ht _ (List.mem_of_getElem? (i := 0) rfl))), (h.zi (ht _ (List.mem_of_getElem? (i := 1) rfl))), (h.zi (ht _ (List.mem_of_getElem? (i := 2) rfl))), (h.zi (ht _ (List.mem_of_getElem? (i := 3) rfl))), Rd.nil, qbf⟩⟩, HF.sub (by kernel_rfl), HM.picks [0, 7, 8, 9, 10, 11, 12, 13, 14, 15, 16, 17, 18, 1, 2, 3, 4] (by decide) rfl⟩
   have hd289 := ne_of_beq_false hb289
   refine qc HF rfl (wp_seq (qa ?_))
   refine fp HF 2 0 [(294, .bool ((m : Int) == (3 : Int)))] fun a HF => ?_
   refine qb rfl ?_
   rcases HF.tf 294 rfl with ⟨hb294, HF⟩ | ⟨hb294, HF⟩
   ·
    have hd294 := eq_of_beq hb294
    refine qd HF rfl (qa ?_)
    refine fp HF 1 0 [(296, vP g12 1)] fun a HF => ?_
    refine fy HF HM 1 rfl rfl rfl (v := vP g12 1) (Yl.nilCheck rfl rfl) fun a HF => ?_
    refine fp HF 1 2 [(298, vP g12 7)] fun a HF => ?_
    refine fy HF HM 3 rfl rfl rfl (v := .slice sA 1 sc) (Yl.qf rfl rfl (by kernel_rfl) (fun _ h => h.cell (i := 0) rfl rfl)) fun a HF => ?_
    obtain ⟨gsA, rfl⟩ := zh (HM.own (i := 5) rfl) (Nat.lt_of_le_of_lt (Nat.zero_le _) (show 0 < 1 from by decide))
    refine fy HF HM 4 rfl rfl rfl (v := vP gsA 0) (Yl.indexAddr (ad := ⟨gsA, 0, none⟩) (y := 0) (sz := 1) rfl rfl rfl (by decide) (by kernel_rfl)) fun a HF => ?_
    refine fo HF 5 rfl rfl ?_
    refine zu HF HM (i := 5) rfl rfl rfl rfl (by kernel_rfl) rfl rfl (Nat.le_of_ble_eq_true rfl) ?_
    clear HM; intro w63_5 HM
    replace HM := HM.asRow (i := 5) (ys := [(⟨none, 0, []⟩ : Rw)].map Rw.val) rfl (rfl)
    refine qb rfl ?_
    exact ⟨(⟨9, ⟨1, 0, gA, gc, [⟨0, 1⟩], lA, lc, [3], uA, uc, [5], tA, tc, [⟨5, 0, 1024, 0, 1, true, 3072, 0⟩], some ⟨gsA, 0, none⟩, sc, [⟨none, 0, []⟩]⟩⟩ : Snm), [.row (.slice gA 1 gc) 1 ([⟨0, 1⟩].flatMap grL) 40 2, .row (.slice lA 1 lc) 1 ([3].map I64i) 3 1, .row (.slice uA 1 uc) 1 ([5].map I64i) 3 1, .row (.slice tA 1 tc) 1 ([⟨5, 0, 1024, 0, 1, true, 3072, 0⟩].flatMap tkL) 46 8, .row (vS gsA 1 sc) 1 ([(⟨none, 0, []⟩ : Rw)].map Rw.val) 44 1], ⟨⟨(show I64 1 from (show I64 (1) by unfold I64; decide)), (show 0 < 18446744073709551616 from (show 0 < 18446744073709551616 by decide)), qh ⟨(show I64 (0) by unfold I64; decide), (show I64 (1) by unfold I64; decide)⟩, qh (show I64 (3) by unfold I64; decide), qh (show I64 (5) by unfold I64; decide), qh ⟨(show I64 (5) by unfold I64; decide), (show I64 (0) by unfold I64; decide), (show I64 (1024) by unfold I64; decide), (show I64 (0) by unfold I64; decide), (show 1 < 18446744073709551616 by decide), (show 3072 < 18446744073709551616 by decide), (show 0 < 4294967296 by decide)⟩, qh qbf⟩, ⟨Nat.le_of_ble_eq_true rfl, Nat.le_of_ble_eq_true rfl, Nat.le_of_ble_eq_true rfl, Nat.le_of_ble_eq_true rfl, Nat.le_of_ble_eq_true rfl, qh (Nat.le_of_ble_eq_true rfl)⟩, ⟨hgc, hlc, huc, htc, hsc, qh (Nat.le_of_ble_eq_true rfl)⟩, fun W w fs h ht => ⟨(h.zi (ht _ (List.mem_of_getElem? (i := 0) rfl))), (h.zi (ht _ (List.mem_of_getElem? (i := 1) rfl))), (h.zi (ht _ (List.mem_of_getElem? (i := 2) rfl))), (h.zi (ht _ (List.mem_of_getElem? (i := 3) rfl))), (h.zi (ht _ (List.mem_of_getElem? (i := 4) rfl))), qh Rd.nil⟩⟩, HF.sub (by kernel_rfl), HM.picks [0, 7, 8, 9, 10, 11, 12, 13, 14, 15, 16, 17, 18, 1, 2, 3, 4, 5] (by decide) rfl⟩
   have hd294 := ne_of_beq_false hb294
   refine qc HF rfl (wp_seq (qa ?_))
   refine fp HF 2 0 [(301, .bool ((m : Int) == (4 : Int)))] fun a HF => ?_
   refine qb rfl ?_
   rcases HF.tf 301 rfl with ⟨hb301, HF⟩ | ⟨hb301, HF⟩
   ·
    have hd301 := eq_of_beq hb301
    refine qd HF rfl (qa ?_)
    refine fp HF 1 0 [(303, vP g12 1)] fun a HF => ?_
    refine fy HF HM 1 rfl rfl rfl (v := vP g12 1) (Yl.nilCheck rfl rfl) fun a HF => ?_
    refine fp HF 2 2 [(306, vP g12 3)] fun a HF => ?_
    refine fo HF 4 rfl rfl ?_
    refine q4 HF HM (i := 0) rfl rfl rfl rfl (by kernel_rfl) rfl rfl (by simp) ?_
    clear HM; intro w65_4 HM
    refine qb rfl ?_
    exact ⟨(⟨9, ⟨1, 0, none, 0, [], lA, lc, [3], uA, uc, [5], tA, tc, [⟨5, 0, 1024, 0, 1, true, 3072, 0⟩], sA, sc, [⟨rA, rc, [⟨0, 0, 3072⟩]⟩]⟩⟩ : Snm), [.row (.slice lA 1 lc) 1 ([3].map I64i) 3 1, .row (.slice uA 1 uc) 1 ([5].map I64i) 3 1, .row (.slice tA 1 tc) 1 ([⟨5, 0, 1024, 0, 1, true, 3072, 0⟩].flatMap tkL) 46 8, .row (.slice sA 1 sc) 1 ([(⟨rA, rc, [⟨0, 0, 3072⟩]⟩ : Rw)].map Rw.val) 44 1, .row (.slice rA 1 rc) 1 ([⟨0, 0, 3072⟩].flatMap spL) 43 3], ⟨⟨(show I64 1 from (show I64 (1) by unfold I64; decide)), (show 0 < 18446744073709551616 from (show 0 < 18446744073709551616 by decide)), qbf, qh (show I64 (3) by unfold I64; decide), qh (show I64 (5) by unfold I64; decide), qh ⟨(show I64 (5) by unfold I64; decide), (show I64 (0) by unfold I64; decide), (show I64 (1024) by unfold I64; decide), (show I64 (0) by unfold I64; decide), (show 1 < 18446744073709551616 by decide), (show 3072 < 18446744073709551616 by decide), (show 0 < 4294967296 by decide)⟩, qh (qh ⟨(show 0 < 18446744073709551616 by decide), (show 0 < 4294967296 by decide), (show 3072 < 18446744073709551616 by decide)⟩)⟩, ⟨Nat.le_of_ble_eq_true rfl, Nat.le_of_ble_eq_true rfl, Nat.le_of_ble_eq_true rfl, Nat.le_of_ble_eq_true rfl, Nat.le_of_ble_eq_true rfl, qh (Nat.le_of_ble_eq_true rfl)⟩, ⟨(Nat.le_of_ble_eq_true rfl), hlc, huc, htc, hsc, qh hrc⟩, fun W w fs h ht => ⟨Rd.nil, (h.zi (ht _ (List.mem_of_getElem? (i := 0) rfl))), (h.zi (ht _ (List.mem_of_getElem? (i := 1) rfl))), (h.zi (ht _ (List.mem_of_getElem? (i := 2) rfl))), (h.zi (ht _ (List.mem_of_getElem? (i := 3) rfl))), qh (h.zi (ht _ (List.mem_of_getElem? (i := 4) rfl)))⟩⟩, HF.sub (by kernel_rfl), HM.picks [0, 7, 8, 9, 10, 11, 12, 13, 14, 15, 16, 17, 18, 2, 3, 4, 5, 6] (by decide) rfl⟩
   have hd301 := ne_of_beq_false hb301
   refine qc HF rfl (wp_seq (qa ?_))
   refine fp HF 2 0 [(307, .bool ((m : Int) == (5 : Int)))] fun a HF => ?_
   refine qb rfl ?_
   rcases HF.tf 307 rfl with ⟨hb307, HF⟩ | ⟨hb307, HF⟩
   ·
    have hd307 := eq_of_beq hb307
    refine qd HF rfl ?_
    refine zc HM [.blk g12 #[vI 9, vI 1, vQ 0, .slice gA 1 gc, .slice lA 1 lc, .slice uA 1 uc, .slice tA 1 tc, .slice sA 1 sc] 32, .row (.slice gA 1 gc) 1 ([⟨0, 1⟩].flatMap grL) 40 2, .row (.slice lA 1 lc) 1 ([3].map I64i) 3 1, .row (.slice uA 1 uc) 1 ([5].map I64i) 3 1, .row (.slice sA 1 sc) 1 ([(⟨rA, rc, [⟨0, 0, 3072⟩]⟩ : Rw)].map Rw.val) 44 1, .row (.slice rA 1 rc) 1 ([⟨0, 0, 3072⟩].flatMap spL) 43 3, .blk g10 ((exB e6 e17 e18 e20 e22 e23).cells) 32, .blk g9 ((exA e6 e9 e10 e12 e13).cells) 32, .blk e6 #[vI 0, vI 1] 40, .blk e9 #[vI 0] 3, .blk e10 #[vI 0] 3, .blk e12 #[vQ 0, vW 0, vQ 0] 43, .blk e13 #[vS e12 1 1] 44, .blk e17 #[vI 3] 3, .blk e18 #[vI 5] 3, .blk e20 #[vI 5, vI 0, vI 1024, vI 0, vQ 1, .bool true, vQ 3072, vW 0] 46, .blk e22 #[vQ 0, vW 0, vQ 3072] 43, .blk e23 #[vS e22 1 1] 44] [0, 1, 2, 3, 5, 6, 7, 8, 9, 10, 11, 12, 13, 14, 15, 16, 17, 18] [15] fun HM HS => ?_
    refine ap HF (fun _ => HS) [0, 1, 5] #[true, true, false, false, false, true, false, false, false, false, false, false, false, false, false, false] [(314, vP g12 1), (310, vP g12 1), (309, vP g12 1)] fun a HF => ?_
    refine ay HF HS 2 rfl rfl rfl (v := vP g12 1) (Yl.nilCheck rfl rfl) fun a HF => ?_
    refine ap HF (fun _ => HS) [3] #[true, true, true, true, false, true, false, false, false, false, false, false, false, false, false, false] [(312, vP g12 6)] fun a HF => ?_
    refine ay HF HS 4 rfl rfl rfl (v := .slice tA 1 tc) (Yl.qf rfl rfl (by kernel_rfl) (fun _ h => h.cell (i := 0) rfl rfl)) fun a HF => ?_
    refine ay HF HS 6 rfl rfl rfl (v := vP g12 1) (Yl.nilCheck rfl rfl) fun a HF => ?_
    refine ap HF (fun _ => HS) [7] #[true, true, true, true, true, true, true, true, false, false, false, false, false, false, false, false] [(316, vP g12 6)] fun a HF => ?_
    refine ay HF HS 8 rfl rfl rfl (v := .slice tA 1 tc) (Yl.qf rfl rfl (by kernel_rfl) (fun _ h => h.cell (i := 0) rfl rfl)) fun a HF => ?_
    obtain ⟨gtA, rfl⟩ := zh (HM.own (i := 4) rfl) (Nat.lt_of_le_of_lt (Nat.zero_le _) (show 0 < 1 from by decide))
    refine ay HF HS 9 rfl rfl rfl (v := vP gtA 0) (Yl.indexAddr (ad := ⟨gtA, 0, none⟩) (y := 0) (sz := 8) rfl rfl rfl (by decide) (by kernel_rfl)) fun a HF => ?_
    refine qm [10] (by kernel_rfl) rfl ?_
    refine all_cons ?_ all_nil
    refine qk HF (i := 10) rfl rfl ?_
    refine Yl.wp (S := fun wS => Mem w wS _) (v := .agg ((⟨5, 0, 1024, 0, 1, true, 3072, 0⟩ : Tk).cells)) (Yl.qr rfl rfl si_tk rfl (fun _ h => h.qdx zf (i := 4) rfl (show ([⟨5, 0, 1024, 0, 1, true, 3072, 0⟩] : List Tk)[0]? = some _ from rfl))) HF HM rfl (by decide) fun a HF => ?_
    replace HF := HF.sp 319 (.agg #[vI 5, vI 0, vI 1024, vI 0, vQ 1, .bool true, vQ 3072, vW 0]) rfl (rfl)
    refine keepS HS (fun HS => ?_)
    refine qm [11] (by kernel_rfl) rfl ?_
    refine all_cons ?_ all_nil
    refine qk HF (i := 11) rfl rfl ?_
    refine qt HF HM (vs := [(0, .agg #[vI 5, vI 0, vI 1024, vI 0, vQ 1, .bool true, vQ 3072, vW 0])]) (cs := #[vI 5, vI 0, vI 1024, vI 0, vQ 1, .bool true, vQ 3072, vW 0]) rfl ei_tk (by decide) rfl (by kernel_rfl) rfl (by decide) ?_
    clear HF HM; intro a w320 g320 HF HM
    refine keepS (HM.picks [1, 2, 3, 4, 6, 7, 8, 9, 10, 11, 12, 13, 14, 15, 16, 17, 18, 19] (by decide) rfl) (fun HS => ?_)
    refine qm [12] (by kernel_rfl) rfl ?_
    refine all_cons ?_ all_nil
    refine qk HF (i := 12) rfl rfl ?_
    refine qw HF HM (i := 5) rfl ei_tk rfl rfl rfl (news := ([⟨5, 0, 1024, 0, 1, true, 3072, 0⟩] : List Tk).flatMap tkL) (HM.rdBlk (i := 0) (n := 1) (size := 8) rfl rfl) (qpt _) (by omega) (by omega) rfl (by decide) ?_
    clear HF HM; intro a w321 A321 c321 HF HM hc321
    refine keepS (HM.picks [1, 2, 3, 4, 6, 7, 8, 9, 10, 11, 12, 13, 14, 15, 16, 17, 18, 19] (by decide) rfl) (fun HS => ?_)
    refine q3 HF (fun _ => HS) (i := 13) rfl rfl (d := 322) rfl (by decide) (by kernel_rfl) (fun _ _ _ h => h) (v := vP g12 1) (fun _ => Yl.nilCheck rfl rfl) fun a HF => ?_
    refine ap HF (fun _ => HS) [14] #[true, true, true, true, true, true, true, true, true, true, true, true, true, true, true, false] [(323, vP g12 6)] fun a HF => ?_
    refine qm [15] (by kernel_rfl) rfl ?_
    refine all_cons ?_ all_nil
    refine qk HF (i := 15) rfl rfl ?_
    refine q4 HF HM (i := 1) rfl rfl rfl rfl (by kernel_rfl) rfl rfl (by simp) ?_
    clear HM; intro w67_15 HM
    refine noS (by kernel_rfl) ?_
    refine qq (by kernel_rfl) ?_
    exact ⟨(⟨9, ⟨1, 0, gA, gc, [⟨0, 1⟩], lA, lc, [3], uA, uc, [5], A321, c321, [⟨5, 0, 1024, 0, 1, true, 3072, 0⟩, ⟨5, 0, 1024, 0, 1, true, 3072, 0⟩], sA, sc, [⟨rA, rc, [⟨0, 0, 3072⟩]⟩]⟩⟩ : Snm), [.row (.slice gA 1 gc) 1 ([⟨0, 1⟩].flatMap grL) 40 2, .row (.slice lA 1 lc) 1 ([3].map I64i) 3 1, .row (.slice uA 1 uc) 1 ([5].map I64i) 3 1, .row (.slice A321 (1 + 1) c321) (1 + 1) (([⟨5, 0, 1024, 0, 1, true, 3072, 0⟩].flatMap tkL) ++ (([⟨5, 0, 1024, 0, 1, true, 3072, 0⟩] : List Tk).flatMap tkL)) 46 8, .row (.slice sA 1 sc) 1 ([(⟨rA, rc, [⟨0, 0, 3072⟩]⟩ : Rw)].map Rw.val) 44 1, .row (.slice rA 1 rc) 1 ([⟨0, 0, 3072⟩].flatMap spL) 43 3], ⟨⟨(show I64 1 from (show I64 (1) by unfold I64; decide)), (show 0 < 18446744073709551616 from (show 0 < 18446744073709551616 by decide)), qh ⟨(show I64 (0) by unfold I64; decide), (show I64 (1) by unfold I64; decide)⟩, qh (show I64 (3) by unfold I64; decide), qh (show I64 (5) by unfold I64; decide), qac ⟨(show I64 (5) by unfold I64; decide), (show I64 (0) by unfold I64; decide), (show I64 (1024) by unfold I64; decide), (show I64 (0) by unfold I64; decide), (show 1 < 18446744073709551616 by decide), (show 3072 < 18446744073709551616 by decide), (show 0 < 4294967296 by decide)⟩ ⟨(show I64 (5) by unfold I64; decide), (show I64 (0) by unfold I64; decide), (show I64 (1024) by unfold I64; decide), (show I64 (0) by unfold I64; decide), (show 1 < 18446744073709551616 by decide), (show 3072 < 18446744073709551616 by decide), (show 0 < 4294967296 by decide)⟩, qh (qh ⟨(show 0 < 18446744073709551616 by decide), (show 0 < 4294967296 by decide), (show 3072 < 18446744073709551616 by decide)⟩)⟩, ⟨Nat.le_of_ble_eq_true rfl, Nat.le_of_ble_eq_true rfl, Nat.le_of_ble_eq_true rfl, Nat.le_of_ble_eq_true rfl, Nat.le_of_ble_eq_true rfl, qh (Nat.le_of_ble_eq_true rfl)⟩, ⟨hgc, hlc, huc, hc321, hsc, qh hrc⟩, fun W w fs h ht => ⟨(h.zi (ht _ (List.mem_of_getElem? (i := 0) rfl))), (h.zi (ht _ (List.mem_of_getElem? (i := 1) rfl))), (h.zi (ht _ (List.mem_of_getElem? (i := 2) rfl))), (h.zi (ht _ (List.mem_of_getElem? (i := 3) rfl))), (h.zi (ht _ (List.mem_of_getElem? (i := 4) rfl))), qh (h.zi (ht _ (List.mem_of_getElem? (i := 5) rfl)))⟩⟩, HF.sub (by kernel_rfl), HM.picks [1, 8, 9, 10, 11, 12, 13, 14, 15, 16, 17, 18, 19, 2, 3, 4, 5, 6, 7] (by decide) rfl⟩
   have hd307 := ne_of_beq_false hb307
   refine qc HF rfl (wp_seq (qa ?_))
   refine fp HF 2 0 [(324, .bool ((m : Int) == (6 : Int)))] fun a HF => ?_
   refine qb rfl ?_
   rcases HF.tf 324 rfl with ⟨hb324, HF⟩ | ⟨hb324, HF⟩
   ·
    have hd324 := eq_of_beq hb324
    refine qd HF rfl (qa ?_)
    refine fp HF 1 0 [(326, vP g12 1)] fun a HF => ?_
    refine fy HF HM 1 rfl rfl rfl (v := vP g12 1) (Yl.nilCheck rfl rfl) fun a HF => ?_
    refine fp HF 1 2 [(328, vP g12 6)] fun a HF => ?_
    refine fy HF HM 3 rfl rfl rfl (v := .slice tA 1 tc) (Yl.qf rfl rfl (by kernel_rfl) (fun _ h => h.cell (i := 0) rfl rfl)) fun a HF => ?_
    obtain ⟨gtA, rfl⟩ := zh (HM.own (i := 4) rfl) (Nat.lt_of_le_of_lt (Nat.zero_le _) (show 0 < 1 from by decide))
    refine fy HF HM 4 rfl rfl rfl (v := vP gtA 0) (Yl.indexAddr (ad := ⟨gtA, 0, none⟩) (y := 0) (sz := 8) rfl rfl rfl (by decide) (by kernel_rfl)) fun a HF => ?_
    refine fp HF 1 5 [(331, vP gtA 5)] fun a HF => ?_
    refine fo HF 6 rfl rfl ?_
    refine zu HF HM (i := 4) rfl rfl rfl rfl (by kernel_rfl) rfl rfl (Nat.le_of_ble_eq_true rfl) ?_
    clear HM; intro w69_6 HM
    replace HM := HM.asRow (i := 4) (ys := [⟨5, 0, 1024, 0, 1, false, 3072, 0⟩].flatMap tkL) rfl (rfl)
    refine qb rfl ?_
    exact ⟨(⟨9, ⟨1, 0, gA, gc, [⟨0, 1⟩], lA, lc, [3], uA, uc, [5], some ⟨gtA, 0, none⟩, tc, [⟨5, 0, 1024, 0, 1, false, 3072, 0⟩], sA, sc, [⟨rA, rc, [⟨0, 0, 3072⟩]⟩]⟩⟩ : Snm), [.row (.slice gA 1 gc) 1 ([⟨0, 1⟩].flatMap grL) 40 2, .row (.slice lA 1 lc) 1 ([3].map I64i) 3 1, .row (.slice uA 1 uc) 1 ([5].map I64i) 3 1, .row (vS gtA 1 tc) 1 ([⟨5, 0, 1024, 0, 1, false, 3072, 0⟩].flatMap tkL) 46 8, .row (.slice sA 1 sc) 1 ([(⟨rA, rc, [⟨0, 0, 3072⟩]⟩ : Rw)].map Rw.val) 44 1, .row (.slice rA 1 rc) 1 ([⟨0, 0, 3072⟩].flatMap spL) 43 3], ⟨⟨(show I64 1 from (show I64 (1) by unfold I64; decide)), (show 0 < 18446744073709551616 from (show 0 < 18446744073709551616 by decide)), qh ⟨(show I64 (0) by unfold I64; decide), (show I64 (1) by unfold I64; decide)⟩, qh (show I64 (3) by unfold I64; decide), qh (show I64 (5) by unfold I64; decide), qh ⟨(show I64 (5) by unfold I64; decide), (show I64 (0) by unfold I64; decide), (show I64 (1024) by unfold I64; decide), (show I64 (0) by unfold I64; decide), (show 1 < 18446744073709551616 by decide), (show 3072 < 18446744073709551616 by decide), (show 0 < 4294967296 by decide)⟩, qh (qh ⟨(show 0 < 18446744073709551616 by decide), (show 0 < 4294967296 by decide), (show 3072 < 18446744073709551616 by decide)⟩)⟩, ⟨Nat.le_of_ble_eq_true rfl, Nat.le_of_ble_eq_true rfl, Nat.le_of_ble_eq_true rfl, Nat.le_of_ble_eq_true rfl, Nat.le_of_ble_eq_true rfl, qh (Nat.le_of_ble_eq_true rfl)⟩, ⟨hgc, hlc, huc, htc, hsc, qh hrc⟩, fun W w fs h ht => ⟨(h.zi (ht _ (List.mem_of_getElem? (i := 0) rfl))), (h.zi (ht _ (List.mem_of_getElem? (i := 1) rfl))), (h.zi (ht _ (List.mem_of_getElem? (i := 2) rfl))), (h.zi (ht _ (List.mem_of_getElem? (i := 3) rfl))), (h.zi (ht _ (List.mem_of_getElem? (i := 4) rfl))), qh (h.zi (ht _ (List.mem_of_getElem? (i := 5) rfl)))⟩⟩, HF.sub (by kernel_rfl), HM.picks [0, 7, 8, 9, 10, 11, 12, 13, 14, 15, 16, 17, 18, 1, 2, 3, 4, 5, 6] (by decide) rfl⟩
   have hd324 := ne_of_beq_false hb324
   refine qc HF rfl (qa ?_)
   refine fp HF 2 0 [(263, vP g12 1), (262, vP g12 1)] fun a HF => ?_
   refine fy HF HM 2 rfl rfl rfl (v := vP g12 1) (Yl.nilCheck rfl rfl) fun a HF => ?_
   refine fp HF 1 3 [(265, vP g12 7)] fun a HF => ?_
   refine fy HF HM 4 rfl rfl rfl (v := .slice sA 1 sc) (Yl.qf rfl rfl (by kernel_rfl) (fun _ h => h.cell (i := 0) rfl rfl)) fun a HF => ?_
   refine fy HF HM 5 rfl rfl rfl (v := .agg #[vQ 0, vW 0, vQ 0]) (Yl.build (vs := []) rfl (by kernel_rfl) (by kernel_rfl)) fun a HF => ?_
   refine fo HF 6 rfl rfl ?_
   refine qt HF HM (vs := [(0, .agg #[vQ 0, vW 0, vQ 0])]) (cs := #[vQ 0, vW 0, vQ 0]) rfl ei_sp (by decide) rfl (by kernel_rfl) rfl (by decide) ?_
   clear HF HM; intro a w268 g268 HF HM
   refine fo HF 7 rfl rfl ?_
   refine qt HF HM (vs := [(0, vS g268 1 1)]) (cs := #[vS g268 1 1]) rfl ei_rw (by decide) rfl (by kernel_rfl) rfl (by decide) ?_
   clear HF HM; intro a w269 g269 HF HM
   refine fo HF 8 rfl rfl ?_
   refine qw HF HM (i := 7) rfl ei_rw rfl rfl rfl (news := ([⟨some ⟨g268, 0, none⟩, 1, [⟨0, 0, 0⟩]⟩] : List Rw).map Rw.val) (HM.rdBlk (i := 0) (n := 1) (size := 1) rfl rfl) (qpv _) (by omega) (by omega) rfl (by decide) ?_
   clear HF HM; intro a w270 A270 c270 HF HM hc270
   refine fy HF HM 9 rfl rfl rfl (v := vP g12 1) (Yl.nilCheck rfl rfl) fun a HF => ?_
   refine fp HF 1 10 [(272, vP g12 7)] fun a HF => ?_
   refine fo HF 11 rfl rfl ?_
   refine q4 HF HM (i := 2) rfl rfl rfl rfl (by kernel_rfl) rfl rfl (by simp) ?_
   clear HM; intro w55_11 HM
   refine qb rfl ?_
   exact ⟨(⟨9, ⟨1, 0, gA, gc, [⟨0, 1⟩], lA, lc, [3], uA, uc, [5], tA, tc, [⟨5, 0, 1024, 0, 1, true, 3072, 0⟩], A270, c270, [⟨rA, rc, [⟨0, 0, 3072⟩]⟩, ⟨some ⟨g268, 0, none⟩, 1, [⟨0, 0, 0⟩]⟩]⟩⟩ : Snm), [.row (.slice gA 1 gc) 1 ([⟨0, 1⟩].flatMap grL) 40 2, .row (.slice lA 1 lc) 1 ([3].map I64i) 3 1, .row (.slice uA 1 uc) 1 ([5].map I64i) 3 1, .row (.slice tA 1 tc) 1 ([⟨5, 0, 1024, 0, 1, true, 3072, 0⟩].flatMap tkL) 46 8, .row (.slice A270 (1 + 1) c270) (1 + 1) (([(⟨rA, rc, [⟨0, 0, 3072⟩]⟩ : Rw)].map Rw.val) ++ (([⟨some ⟨g268, 0, none⟩, 1, [⟨0, 0, 0⟩]⟩] : List Rw).map Rw.val)) 44 1, .row (.slice rA 1 rc) 1 ([⟨0, 0, 3072⟩].flatMap spL) 43 3, .blk g268 #[vQ 0, vW 0, vQ 0] 43], ⟨⟨(show I64 1 from (show I64 (1) by unfold I64; decide)), (show 0 < 18446744073709551616 from (show 0 < 18446744073709551616 by decide)), qh ⟨(show I64 (0) by unfold I64; decide), (show I64 (1) by unfold I64; decide)⟩, qh (show I64 (3) by unfold I64; decide), qh (show I64 (5) by unfold I64; decide), qh ⟨(show I64 (5) by unfold I64; decide), (show I64 (0) by unfold I64; decide), (show I64 (1024) by unfold I64; decide), (show I64 (0) by unfold I64; decide), (show 1 < 18446744073709551616 by decide), (show 3072 < 18446744073709551616 by decide), (show 0 < 4294967296 by decide)⟩, qac (qh ⟨(show 0 < 18446744073709551616 by decide), (show 0 < 4294967296 by decide), (show 3072 < 18446744073709551616 by decide)⟩) (qh ⟨(show 0 < 18446744073709551616 by decide), (show 0 < 4294967296 by decide), (show 0 < 18446744073709551616 by decide)⟩)⟩, ⟨Nat.le_of_ble_eq_true rfl, Nat.le_of_ble_eq_true rfl, Nat.le_of_ble_eq_true rfl, Nat.le_of_ble_eq_true rfl, Nat.le_of_ble_eq_true rfl, qac (Nat.le_of_ble_eq_true rfl) (Nat.le_of_ble_eq_true rfl)⟩, ⟨hgc, hlc, huc, htc, hc270, qac hrc (Nat.le_of_ble_eq_true rfl)⟩, fun W w fs h ht => ⟨(h.zi (ht _ (List.mem_of_getElem? (i := 0) rfl))), (h.zi (ht _ (List.mem_of_getElem? (i := 1) rfl))), (h.zi (ht _ (List.mem_of_getElem? (i := 2) rfl))), (h.zi (ht _ (List.mem_of_getElem? (i := 3) rfl))), (h.zi (ht _ (List.mem_of_getElem? (i := 4) rfl))), qac (h.zi (ht _ (List.mem_of_getElem? (i := 5) rfl))) (h.rdB (ht _ (List.mem_of_getElem? (i := 6) rfl)) rfl)⟩⟩, HF.sub (by kernel_rfl), HM.picks [2, 9, 10, 11, 12, 13, 14, 15, 16, 17, 18, 19, 20, 3, 4, 5, 6, 7, 8, 1] (by decide) rfl⟩
  clear HF HM; rintro a w_ ⟨S, T, hS, HF, HM⟩
  refine wp_seq (qa ?_)
  refine fy HF HM 0 rfl rfl rfl (v := .agg S.cells) (Yl.qr rfl rfl qx rfl (fun _ h => qe (h.blk (i := 0) rfl))) fun a HF => ?_
  replace HF := HF.sp 332 (.agg S.cells) rfl (rfl)
  refine fy HF HM 1 rfl rfl rfl (v := .agg ((exA e6 e9 e10 e12 e13).cells)) (Yl.qr rfl rfl qx rfl (fun _ h => qe (h.blk (i := 2) rfl))) fun a HF => ?_
  replace HF := HF.sp 333 (.agg ((exA e6 e9 e10 e12 e13).cells)) rfl (rfl)
  refine fo HF 2 rfl rfl ?_
  refine e_is HF HM [.agg S.cells, .agg ((exA e6 e9 e10 e12 e13).cells)] (.bool true) rfl rfl (z3 S (exA e6 e9 e10 e12 e13) hS.ok hS.few hS.cap qef B _ (hL.mem HM hB) (HM.le hB) (hS.at HM 13 rfl) (qhb (HM.blk (i := 3) rfl) (HM.blk (i := 4) rfl) (HM.blk (i := 5) rfl) (HM.blk (i := 6) rfl) (HM.blk (i := 7) rfl))) fun w334 hbw HM a HF => ?_
  refine fp HF 2 3 [(336, .bool false)] fun a HF => ?_
  refine fy HF HM 5 rfl rfl rfl (v := .agg S.cells) (Yl.qr rfl rfl qx rfl (fun _ h => qe (h.blk (i := 0) rfl))) fun a HF => ?_
  replace HF := HF.sp 337 (.agg S.cells) rfl (rfl)
  refine fy HF HM 6 rfl rfl rfl (v := .agg S.cells) (Yl.qr rfl rfl qx rfl (fun _ h => qe (h.blk (i := 0) rfl))) fun a HF => ?_
  replace HF := HF.sp 338 (.agg S.cells) rfl (rfl)
  refine fo HF 7 rfl rfl ?_
  refine e_is HF HM [.agg S.cells, .agg S.cells] (.bool true) rfl rfl (z3 S S hS.ok hS.few hS.cap hS.few B _ (hL.mem HM hB) (HM.le hB) (hS.at HM 13 rfl) (hS.at HM 13 rfl)) fun w339 hbw HM a HF => ?_
  refine fp HF 3 8 [(342, .bool false)] fun a HF => ?_
  refine fy HF HM 11 rfl rfl rfl (v := .agg S.cells) (Yl.qr rfl rfl qx rfl (fun _ h => qe (h.blk (i := 0) rfl))) fun a HF => ?_
  replace HF := HF.sp 343 (.agg S.cells) rfl (rfl)
  refine fy HF HM 12 rfl rfl rfl (v := .agg #[vI 0, vI 0, vQ 0, .slice none 0 0, .slice none 0 0, .slice none 0 0, .slice none 0 0, .slice none 0 0]) (Yl.build (vs := []) rfl (by kernel_rfl) (by kernel_rfl)) fun a HF => ?_
  refine fo HF 13 rfl rfl ?_
  refine e_is HF HM [.agg S.cells, .agg #[vI 0, vI 0, vQ 0, .slice none 0 0, .slice none 0 0, .slice none 0 0, .slice none 0 0, .slice none 0 0]] (.bool true) rfl rfl (z3 S snZ hS.ok hS.few hS.cap qu7 B _ (hL.mem HM hB) (HM.le hB) (hS.at HM 13 rfl) (qwd _)) fun w345 hbw HM a HF => ?_
  refine fp HF 2 14 [(347, .bool false)] fun a HF => ?_
  refine qb rfl (qc HF rfl (wp_skip (qa ?_)))
  refine fp HF 1 0 [(348, vI (IntKind.i64.wrap ((m : Int) + 1)))] fun a HF => ?_
  replace HF := HF.sp 348 (vI (m + 1 : Nat)) rfl (qi (by omega) (by omega))
  refine fp HF 1 1 [(253, vI (m + 1 : Nat))] fun a HF => ?_
  refine qb rfl ?_
  exact ⟨_, (by omega), m + 1, by omega, rfl, HF.sub (by kernel_rfl), HM.picks [1, 2, 3, 4, 5, 6, 7, 8, 9, 10, 11, 12] (by decide) rfl⟩
 have hd254 := of_decide_eq_false hb254
 refine qc HF rfl (wp_exit (wp_seq (qa ?_)))
 refine fo HF 0 rfl rfl ?_
 refine e_is HF HM [] (.bool true) rfl rfl (qnw B _ (hL.mem HM hB) (HM.le hB)) fun w349 hbw HM a HF => ?_
 refine fp HF 1 1 [(350, .bool true)] fun a HF => ?_
 refine fo HF 2 rfl rfl ?_
 refine e_is HF HM [] (.bool true) rfl rfl (qk5 B _ (hL.mem HM hB) (HM.le hB)) fun w351 hbw HM a HF => ?_
 refine fp HF 2 3 [(0, .bool true)] fun a HF => ?_
 refine qb rfl (wp_ret ?_)
 exact ret1 rfl HF (.tmp HF rfl) (⟨rfl, HM.below⟩)
end Go.Proofs.YtggpmlaappaopaaGreatDoor
