/- Parts. -/
import Derived.Test.YtggpmlaappaopaaGreatDoorQcZ4
set_option linter.all false
set_option maxRecDepth 100000
set_option maxHeartbeats 1000000
namespace Go.Proofs.YtggpmlaappaopaaGreatDoor
open Go.RowKit
theorem qk7 (w : World) :
    Calls Tryz.prog 10 #[] w (ExIs w) := by
 refine qg (vs := []) Tryz.func10 rfl rfl (by kernel_rfl) (σ0 := []) rfl ?_
 intro a HF
 have HM := Mem.start w
 refine wp_seq (qa ?_)
 refine fo HF 0 rfl rfl ?_
 refine qs HF HM (cs := #[vI 0, vI 0, vQ 0, .slice none 0 0, .slice none 0 0, .slice none 0 0, .slice none 0 0, .slice none 0 0]) rfl (by kernel_rfl) rfl (by decide) ?_
 clear HF HM; intro a w0 g0 HF HM
 refine fo HF 1 rfl rfl ?_
 refine qs HF HM (cs := #[vI 0, vI 0, vQ 0, .slice none 0 0, .slice none 0 0, .slice none 0 0, .slice none 0 0, .slice none 0 0]) rfl (by kernel_rfl) rfl (by decide) ?_
 clear HF HM; intro a w1 g1 HF HM
 refine qb rfl (wp_seq (qa ?_))
 refine fy HF HM 0 rfl rfl rfl (v := .agg #[vI 0, vI 1]) (Yl.build (vs := [(1, vI 1)]) rfl (by kernel_rfl) (by kernel_rfl)) fun a HF => ?_
 refine fo HF 1 rfl rfl ?_
 refine qu HF HM (vs := [(0, .agg #[vI 0, vI 1])]) (cs := #[vI 0, vI 1]) rfl ei_gr (by decide) rfl (by kernel_rfl) rfl (by decide) ?_
 clear HF HM; intro a w6 g6 HF HM
 refine fp HF 1 2 [(2, vS g6 1 1)] fun a HF => ?_
 refine qb rfl (wp_seq (qa ?_))
 refine fp HF 1 0 [(7, vS g6 1 1)] fun a HF => ?_
 refine fy HF HM 1 rfl rfl rfl (v := .agg #[vI 1, vQ 0, vS g6 1 1]) (Yl.build (vs := [(0, vI 1), (2, vS g6 1 1)]) rfl (by kernel_rfl) (by kernel_rfl)) fun a HF => ?_
 refine fo HF 2 rfl rfl ?_
 refine qu HF HM (vs := [(0, vI 0)]) (cs := #[vI 0]) rfl qca (by decide) rfl (by kernel_rfl) rfl (by decide) ?_
 clear HF HM; intro a w9 g9 HF HM
 refine fo HF 3 rfl rfl ?_
 refine qu HF HM (vs := [(0, vI 0)]) (cs := #[vI 0]) rfl qca (by decide) rfl (by kernel_rfl) rfl (by decide) ?_
 clear HF HM; intro a w10 g10 HF HM
 refine fy HF HM 4 rfl rfl rfl (v := .agg #[vQ 0, vW 0, vQ 0]) (Yl.build (vs := []) rfl (by kernel_rfl) (by kernel_rfl)) fun a HF => ?_
 refine fo HF 5 rfl rfl ?_
 refine qu HF HM (vs := [(0, .agg #[vQ 0, vW 0, vQ 0])]) (cs := #[vQ 0, vW 0, vQ 0]) rfl ei_sp (by decide) rfl (by kernel_rfl) rfl (by decide) ?_
 clear HF HM; intro a w12 g12 HF HM
 refine fo HF 6 rfl rfl ?_
 refine qu HF HM (vs := [(0, vS g12 1 1)]) (cs := #[vS g12 1 1]) rfl ei_rw (by decide) rfl (by kernel_rfl) rfl (by decide) ?_
 clear HF HM; intro a w13 g13 HF HM
 refine fy HF HM 7 rfl rfl rfl (v := .agg #[vI 1, vQ 0, vS g6 1 1, vS g9 1 1, vS g10 1 1, .slice none 0 0, vS g13 1 1]) (Yl.build (vs := [(0, .agg #[vI 1, vQ 0, vS g6 1 1]), (1, vS g9 1 1), (2, vS g10 1 1), (4, vS g13 1 1)]) rfl (by kernel_rfl) (by kernel_rfl)) fun a HF => ?_
 refine fo HF 8 rfl rfl ?_
 refine qs HF HM (cs := #[vI 0, vQ 0, .slice none 0 0, .slice none 0 0, .slice none 0 0, .slice none 0 0, .slice none 0 0]) rfl (by kernel_rfl) rfl (by decide) ?_
 clear HF HM; intro a w3 g3 HF HM
 refine fo HF 9 rfl rfl ?_
 refine e_sa HF HM 0 rfl rfl rfl rfl rfl si_st rfl rfl (by simp [Value.oneCell']) ?_
 clear HM; intro w2_9 HM
 refine qb rfl (wp_seq (qa ?_))
 refine fp HF 1 0 [(15, vS g6 1 1)] fun a HF => ?_
 refine fy HF HM 1 rfl rfl rfl (v := .agg #[vI 1, vQ 0, vS g6 1 1]) (Yl.build (vs := [(0, vI 1), (2, vS g6 1 1)]) rfl (by kernel_rfl) (by kernel_rfl)) fun a HF => ?_
 refine fo HF 2 rfl rfl ?_
 refine qu HF HM (vs := [(0, vI 3)]) (cs := #[vI 3]) rfl qca (by decide) rfl (by kernel_rfl) rfl (by decide) ?_
 clear HF HM; intro a w17 g17 HF HM
 refine fo HF 3 rfl rfl ?_
 refine qu HF HM (vs := [(0, vI 5)]) (cs := #[vI 5]) rfl qca (by decide) rfl (by kernel_rfl) rfl (by decide) ?_
 clear HF HM; intro a w18 g18 HF HM
 refine fy HF HM 4 rfl rfl rfl (v := .agg #[vI 5, vI 0, vI 1024, vI 0, vQ 1, .bool true, vQ 3072, vW 0]) (Yl.build (vs := [(0, vI 5), (2, vI 1024), (4, vQ 1), (5, .bool true), (6, vQ 3072)]) rfl (by kernel_rfl) (by kernel_rfl)) fun a HF => ?_
 refine fo HF 5 rfl rfl ?_
 refine qu HF HM (vs := [(0, .agg #[vI 5, vI 0, vI 1024, vI 0, vQ 1, .bool true, vQ 3072, vW 0])]) (cs := #[vI 5, vI 0, vI 1024, vI 0, vQ 1, .bool true, vQ 3072, vW 0]) rfl ei_tk (by decide) rfl (by kernel_rfl) rfl (by decide) ?_
 clear HF HM; intro a w20 g20 HF HM
 refine fy HF HM 6 rfl rfl rfl (v := .agg #[vQ 0, vW 0, vQ 3072]) (Yl.build (vs := [(2, vQ 3072)]) rfl (by kernel_rfl) (by kernel_rfl)) fun a HF => ?_
 refine fo HF 7 rfl rfl ?_
 refine qu HF HM (vs := [(0, .agg #[vQ 0, vW 0, vQ 3072])]) (cs := #[vQ 0, vW 0, vQ 3072]) rfl ei_sp (by decide) rfl (by kernel_rfl) rfl (by decide) ?_
 clear HF HM; intro a w22 g22 HF HM
 refine fo HF 8 rfl rfl ?_
 refine qu HF HM (vs := [(0, vS g22 1 1)]) (cs := #[vS g22 1 1]) rfl ei_rw (by decide) rfl (by kernel_rfl) rfl (by decide) ?_
 clear HF HM; intro a w23 g23 HF HM
 refine fy HF HM 9 rfl rfl rfl (v := .agg #[vI 1, vQ 0, vS g6 1 1, vS g17 1 1, vS g18 1 1, vS g20 1 1, vS g23 1 1]) (Yl.build (vs := [(0, .agg #[vI 1, vQ 0, vS g6 1 1]), (1, vS g17 1 1), (2, vS g18 1 1), (3, vS g20 1 1), (4, vS g23 1 1)]) rfl (by kernel_rfl) (by kernel_rfl)) fun a HF => ?_
 refine fo HF 10 rfl rfl ?_
 refine qs HF HM (cs := #[vI 0, vQ 0, .slice none 0 0, .slice none 0 0, .slice none 0 0, .slice none 0 0, .slice none 0 0]) rfl (by kernel_rfl) rfl (by decide) ?_
 clear HF HM; intro a w4 g4 HF HM
 refine fo HF 11 rfl rfl ?_
 refine e_sa HF HM 0 rfl rfl rfl rfl rfl si_st rfl rfl (by simp [Value.oneCell']) ?_
 clear HM; intro w3_11 HM
 refine qb rfl (wp_seq ?_)
 refine q9 HM [.blk g4 #[vI 1, vQ 0, vS g6 1 1, vS g17 1 1, vS g18 1 1, vS g20 1 1, vS g23 1 1] 30, .blk g23 #[vS g22 1 1] 44, .blk g22 #[vQ 0, vW 0, vQ 3072] 43, .blk g20 #[vI 5, vI 0, vI 1024, vI 0, vQ 1, .bool true, vQ 3072, vW 0] 46, .blk g18 #[vI 5] 3, .blk g17 #[vI 3] 3, .blk g3 #[vI 1, vQ 0, vS g6 1 1, vS g9 1 1, vS g10 1 1, .slice none 0 0, vS g13 1 1] 30, .blk g13 #[vS g12 1 1] 44, .blk g12 #[vQ 0, vW 0, vQ 0] 43, .blk g10 #[vI 0] 3, .blk g9 #[vI 0] 3, .blk g6 #[vI 0, vI 1] 40, .blk g1 #[vI 0, vI 0, vQ 0, .slice none 0 0, .slice none 0 0, .slice none 0 0, .slice none 0 0, .slice none 0 0] 32] [0, 1, 2, 3, 4, 5, 6, 7, 8, 9, 10, 11, 12] [5] fun HM HS => ?_
 refine ay HF HS 0 rfl rfl rfl (v := .agg #[vI 1, vQ 0, vS g6 1 1, vS g9 1 1, vS g10 1 1, .slice none 0 0, vS g13 1 1]) (Yl.qr rfl rfl si_st rfl (fun _ h => qf (h.blk (i := 6) rfl))) fun a HF => ?_
 refine ay HF HS 1 rfl rfl rfl (v := .agg #[vI 1, vI 1, vQ 0, vS g6 1 1, vS g9 1 1, vS g10 1 1, .slice none 0 0, vS g13 1 1]) (Yl.build (vs := [(0, vI 1), (1, .agg #[vI 1, vQ 0, vS g6 1 1, vS g9 1 1, vS g10 1 1, .slice none 0 0, vS g13 1 1])]) rfl (by kernel_rfl) (by kernel_rfl)) fun a HF => ?_
 refine ay HF HS 2 rfl rfl rfl (v := .agg #[vI 1, vQ 0, vS g6 1 1, vS g17 1 1, vS g18 1 1, vS g20 1 1, vS g23 1 1]) (Yl.qr rfl rfl si_st rfl (fun _ h => qf (h.blk (i := 0) rfl))) fun a HF => ?_
 refine ay HF HS 3 rfl rfl rfl (v := .agg #[vI 4, vI 1, vQ 0, vS g6 1 1, vS g17 1 1, vS g18 1 1, vS g20 1 1, vS g23 1 1]) (Yl.build (vs := [(0, vI 4), (1, .agg #[vI 1, vQ 0, vS g6 1 1, vS g17 1 1, vS g18 1 1, vS g20 1 1, vS g23 1 1])]) rfl (by kernel_rfl) (by kernel_rfl)) fun a HF => ?_
 refine qj [4] (by kernel_rfl) rfl ?_
 refine all_cons ?_ all_nil
 refine qi HF (i := 4) rfl rfl ?_
 refine e_sa HF HM 13 rfl rfl rfl rfl rfl q3 rfl rfl (by simp [Value.oneCell']) ?_
 clear HM; intro w4_4 HM
 refine keepS (HM.picks [0, 1, 2, 3, 4, 5, 6, 7, 8, 9, 10, 11, 12] (by decide) rfl) (fun HS => ?_)
 refine qj [5] (by kernel_rfl) rfl ?_
 refine all_cons ?_ all_nil
 refine qi HF (i := 5) rfl rfl ?_
 refine e_sa HF HM 12 rfl rfl rfl rfl rfl q3 rfl rfl (by simp [Value.oneCell']) ?_
 clear HM; intro w4_5 HM
 refine noS (by kernel_rfl) ?_
 refine qq (by kernel_rfl) ?_
 refine wp_ret ?_
 exact ret2 rfl HF (.cellS (i := 13) HF HM rfl rfl q3 rfl) (.cellS (i := 12) HF HM rfl rfl q3 rfl) (⟨g6, g9, g10, g12, g13, g17, g18, g20, g22, g23, rfl, HM.picks [11, 10, 9, 8, 7, 5, 4, 3, 2, 1] (by decide) rfl⟩)
theorem qnz {a b c d e : Nat} (B : Nat) (w : World) (hL : LaidX B w) (hB : B ≤ w.heap.size) (hx : StRd w (exA a b c d e).st) : Calls Tryz.prog 22 #[.agg (exA a b c d e).cells] w (qch w 0 (sealL byA)) := by
 have h := qcr (exA a b c d e) qms qfv qh6 B w hL hB hx
 rwa [qfu, qrj] at h
theorem qrm {a b c d e : Nat} (B : Nat) (w : World) (hL : LaidX B w) (hB : B ≤ w.heap.size) (hx : StRd w (exA a b c d e).st) : Calls Tryz.prog 24 #[.agg (exA a b c d e).cells] w (Is w (.tuple #[.int .i64 15, .int .i64 0])) := by
 have h := qjl (exA a b c d e) qms qfv qh6 B w hL hB hx
 rwa [qfu, qrj] at h
theorem qte {a b c d e : Nat} (B : Nat) (w : World) (hL : LaidX B w) (hB : B ≤ w.heap.size) (hx : StRd w (exA a b c d e).st) : Calls Tryz.prog 25 #[.agg (exA a b c d e).cells] w (Is w (.tuple #[.int .u32 (qo byA : Int), .int .i64 0])) := by
 have h := qmb (exA a b c d e) qms qfv qh6 B w hL hB hx
 rwa [qfu, qvr] at h
theorem qrn {a b c d e f : Nat} (w : World) (hx : StRd w (exB a b c d e f).st) : Calls Tryz.prog 20 #[.agg (exB a b c d e f).cells] w (qd6 w 0 nuB) := by
 have h := qcm (exB a b c d e f) qt5 qfw qrl w hx
 rwa [qh5, qtc] at h
theorem qro {a b c d e f : Nat} (w : World) (hx : StRd w (exB a b c d e f).st) : Calls Tryz.prog 27 #[.agg (exB a b c d e f).cells] w (qd7 82 w 0 (secsS (exB 0 0 0 0 0 0))) := by
 have h := qdq (exB a b c d e f) qt5 qfw qrl w hx
 rwa [qh5, qtd] at h
theorem qn0 {a b c d e : Nat} (w : World) (hx : StRd w (exA a b c d e).st) : Calls Tryz.prog 29 #[.agg (exZ a b c d e).cells] w (Is w (.int .i64 330)) := by
 have h := qbp (exZ a b c d e) qms qfv qh6 w hx
 rwa [qvp] at h
theorem qn1 {a b c d e : Nat} (w : World) (hx : StRd w (exT a b c d e).st) : Calls Tryz.prog 29 #[.agg (exT a b c d e).cells] w (Is w (.int .i64 331)) := by
 have h := qbp (exT a b c d e) qw2 qvs qvt w hx
 rwa [qvq] at h
theorem qn2 {a b c d e p q r s t v : Nat} (w : World) (hx : StRd w (exA a b c d e).st) (hz : StRd w (exB p q r s t v).st) : Calls Tryz.prog 31 #[.agg (exA a b c d e).cells, .agg (exB p q r s t v).cells] w (Is w (.bool false)) := by
 have h := qft (exA a b c d e) (exB p q r s t v) w hx hz qfv qfw
 rwa [decide_eq_false (fun e => absurd (show (1 : Int) = 4 from e.1) (by decide))] at h
theorem qn3 {p q r s t v : Nat} (w : World) (hz : StRd w (exB p q r s t v).st) : Calls Tryz.prog 31 #[.agg (exB p q r s t v).cells, .agg (exB p q r s t v).cells] w (Is w (.bool true)) := by
 have h := qft (exB p q r s t v) (exB p q r s t v) w hz hz qfw qfw
 rwa [decide_eq_true (sn_of rfl (qna _))] at h
theorem qk8 (A : Option Addr) (c : Nat) (B : Nat) (w : World) (hL : LaidX B w) (hB : B ≤ w.heap.size) (hr : Rd w w.heap.size 1 A 15 ((sealL byA).map B8)) (hc : 15 ≤ c) : Calls Tryz.prog 34 #[.slice A 15 c] w (Is w (.bool true)) := by
 have h := qny A 15 c (sealL byA) B w hL hB hr hc rfl (by decide) (qoz (by decide))
 rwa [qj3] at h
theorem qc3 (B : Nat) (w : World) (hL : LaidX B w) (hB : B ≤ w.heap.size) :
    Calls Tryz.prog 9 #[] w (Is w (.bool true)) := by
 refine qg (vs := []) Tryz.func9 rfl rfl (by kernel_rfl) (σ0 := []) rfl ?_
 intro a HF
 have HM := Mem.start w
 refine wp_seq (qa ?_)
 refine fp HF 1 0 [(0, .bool false)] fun a HF => ?_
 refine qb rfl (wp_seq (qa ?_))
 refine fo HF 0 rfl rfl ?_
 refine e_cl HF [] rfl rfl (qk7 _) ?_
 rintro _ w16 ⟨e6, e9, e10, e12, e13, e17, e18, e20, e22, e23, rfl, hm⟩
 refine ⟨_, rfl, ?_⟩
 replace HM := HM.join hm
 clear HF; intro a HF
 refine fp HF 3 1 [(18, .agg ((exB e6 e17 e18 e20 e22 e23).cells)), (17, .agg ((exA e6 e9 e10 e12 e13).cells))] fun a HF => ?_
 refine fo HF 4 rfl rfl ?_
 refine qs HF HM (cs := #[vI 0, vI 0, vQ 0, .slice none 0 0, .slice none 0 0, .slice none 0 0, .slice none 0 0, .slice none 0 0]) rfl (by kernel_rfl) rfl (by decide) ?_
 clear HF HM; intro a w1 g1 HF HM
 refine fo HF 5 rfl rfl ?_
 refine qs HF HM (cs := #[vI 0, vI 0, vQ 0, .slice none 0 0, .slice none 0 0, .slice none 0 0, .slice none 0 0, .slice none 0 0]) rfl (by kernel_rfl) rfl (by decide) ?_
 clear HF HM; intro a w2 g2 HF HM
 refine fo HF 6 rfl rfl ?_
 refine e_sa HF HM 1 rfl rfl rfl rfl rfl q3 rfl rfl (qd3 (exA e6 e9 e10 e12 e13)) ?_
 clear HM; intro w1_6 HM
 refine fo HF 7 rfl rfl ?_
 refine e_sa HF HM 0 rfl rfl rfl rfl rfl q3 rfl rfl (qd3 (exB e6 e17 e18 e20 e22 e23)) ?_
 clear HM; intro w1_7 HM
 refine qb rfl (wp_seq (qa ?_))
 refine fy HF HM 0 rfl rfl rfl (v := .agg ((exA e6 e9 e10 e12 e13).cells)) (Yl.qr rfl rfl q3 rfl (fun _ h => qf (h.blk (i := 1) rfl))) fun a HF => ?_
 refine fo HF 1 rfl rfl ?_
 refine e_cl HF [.agg ((exA e6 e9 e10 e12 e13).cells)] rfl rfl (qnz B _ (hL.mem HM hB) (HM.le hB) (qju (HM.blk (i := 2) rfl) (HM.blk (i := 3) rfl) (HM.blk (i := 4) rfl) (HM.blk (i := 5) rfl) (HM.blk (i := 6) rfl))) ?_
 rintro _ w21 ⟨⟨A21, c21, rfl, ho, hc21⟩, hbw⟩
 refine ⟨_, rfl, ?_⟩
 replace HM := HM.callRow hbw ho
 clear HF; intro a HF
 replace hc21 : 15 ≤ c21 := hc21
 refine fp HF 5 2 [(4, vI 0), (3, .slice A21 15 c21)] fun a HF => ?_
 refine qb rfl (wp_seq (qa ?_))
 refine fy HF HM 0 rfl rfl rfl (v := .agg ((exA e6 e9 e10 e12 e13).cells)) (Yl.qr rfl rfl q3 rfl (fun _ h => qf (h.blk (i := 2) rfl))) fun a HF => ?_
 refine fo HF 1 rfl rfl ?_
 refine e_is HF HM [.agg ((exA e6 e9 e10 e12 e13).cells)] (.tuple #[vI 15, vI 0]) rfl rfl (qrm B _ (hL.mem HM hB) (HM.le hB) (qju (HM.blk (i := 3) rfl) (HM.blk (i := 4) rfl) (HM.blk (i := 5) rfl) (HM.blk (i := 6) rfl) (HM.blk (i := 7) rfl))) fun w26 hbw HM a HF => ?_
 refine fp HF 5 2 [(6, vI 0), (5, vI 15)] fun a HF => ?_
 refine qb rfl (wp_seq (qa ?_))
 refine fy HF HM 0 rfl rfl rfl (v := .agg ((exB e6 e17 e18 e20 e22 e23).cells)) (Yl.qr rfl rfl q3 rfl (fun _ h => qf (h.blk (i := 1) rfl))) fun a HF => ?_
 refine fo HF 1 rfl rfl ?_
 refine e_cl HF [.agg ((exB e6 e17 e18 e20 e22 e23).cells)] rfl rfl (qrn _ (qmt (HM.blk (i := 3) rfl) (HM.blk (i := 8) rfl) (HM.blk (i := 9) rfl) (HM.blk (i := 10) rfl) (HM.blk (i := 11) rfl) (HM.blk (i := 12) rfl))) ?_
 rintro _ w31 ⟨⟨A31, c31, rfl, ho, hc31⟩, hbw⟩
 refine ⟨_, rfl, ?_⟩
 replace HM := HM.callRow hbw ho
 clear HF; intro a HF
 replace hc31 : 16 ≤ c31 := hc31
 refine fp HF 5 2 [(8, vI 0), (7, .slice A31 16 c31)] fun a HF => ?_
 refine qb rfl (wp_seq (qa ?_))
 refine fy HF HM 0 rfl rfl rfl (v := .agg ((exA e6 e9 e10 e12 e13).cells)) (Yl.qr rfl rfl q3 rfl (fun _ h => qf (h.blk (i := 3) rfl))) fun a HF => ?_
 refine fo HF 1 rfl rfl ?_
 refine e_is HF HM [.agg ((exA e6 e9 e10 e12 e13).cells)] (.tuple #[vW (qo byA), vI 0]) rfl rfl (qte B _ (hL.mem HM hB) (HM.le hB) (qju (HM.blk (i := 4) rfl) (HM.blk (i := 5) rfl) (HM.blk (i := 6) rfl) (HM.blk (i := 7) rfl) (HM.blk (i := 8) rfl))) fun w36 hbw HM a HF => ?_
 refine fp HF 5 2 [(10, vI 0), (9, vW (qo byA))] fun a HF => ?_
 refine qb rfl (wp_seq (qa ?_))
 refine fy HF HM 0 rfl rfl rfl (v := .agg ((exB e6 e17 e18 e20 e22 e23).cells)) (Yl.qr rfl rfl q3 rfl (fun _ h => qf (h.blk (i := 2) rfl))) fun a HF => ?_
 refine fo HF 1 rfl rfl ?_
 refine e_cl HF [.agg ((exB e6 e17 e18 e20 e22 e23).cells)] rfl rfl (qro _ (qmt (HM.blk (i := 4) rfl) (HM.blk (i := 9) rfl) (HM.blk (i := 10) rfl) (HM.blk (i := 11) rfl) (HM.blk (i := 12) rfl) (HM.blk (i := 13) rfl))) ?_
 rintro _ w41 ⟨⟨A41, c41, rfl, ho, hc41⟩, hbw⟩
 refine ⟨_, rfl, ?_⟩
 replace HM := HM.callRow hbw ho
 clear HF; intro a HF
 replace hc41 : 9 ≤ c41 := hc41
 refine fp HF 5 2 [(12, vI 0), (11, .slice A41 9 c41)] fun a HF => ?_
 refine qb rfl (wp_seq (wp_seq (qa ?_)))
 refine fp HF 16 0 [(59, .slice A21 15 c21), (58, .bool false)] fun a HF => ?_
 refine fy HF HM 16 rfl rfl rfl (Yl.len rfl rfl (by kernel_rfl)) fun a HF => ?_
 refine fp HF 4 17 [(64, .slice A21 15 c21), (63, .bool false)] fun a HF => ?_
 refine fy HF HM 21 rfl rfl rfl (v := .slice A21 11 c21) (Yl.qbr ei_u8 (j := 11) rfl rfl rfl (by omega)) fun a HF => ?_
 refine fy HF HM 22 rfl rfl rfl (v := .string (bstr byA)) (Yl.str rfl rfl (fun _ h => qmu (h.rd (i := 2) rfl))) fun a HF => ?_
 refine fp HF 3 23 [(69, .bool (!(((bstr byA)).toList == ((ByteArray.mk #[113, 115, 1, 1, 1, 0, 1, 0, 0, 0, 0])).toList)))] fun a HF => ?_
 rcases HF.tf 69 rfl with ⟨hb69, HF⟩ | ⟨hb69, HF⟩
 ·
  rw [show ((bstr byA).toList == (ByteArray.mk #[113, 115, 1, 1, 1, 0, 1, 0, 0, 0, 0]).toList) = true from qom byA] at hb69; cases hb69
 refine fp HF 1 26 [(70, .slice A21 15 c21)] fun a HF => ?_
 refine fo HF 27 rfl rfl ?_
 refine e_is HF HM [.slice A21 15 c21] (.bool true) rfl rfl (qk8 A21 c21 B _ (hL.mem HM hB) (HM.le hB) (HM.rd (i := 2) rfl) hc21) fun w71 hbw HM a HF => ?_
 refine fp HF 5 28 [(76, .slice A21 15 c21), (75, vW (qo byA)), (74, .bool false)] fun a HF => ?_
 refine fy HF HM 33 rfl rfl rfl (v := .slice A21 11 c21) (Yl.qbr ei_u8 (j := 11) rfl rfl rfl (by omega)) fun a HF => ?_
 refine fo HF 34 rfl rfl ?_
 refine e_is HF HM [.slice A21 11 c21] (vW (qo byA)) rfl rfl (qcq A21 11 c21 byA B _ (hL.mem HM hB) (HM.le hB) (qmu (HM.rd (i := 2) rfl)) rfl (by decide) (by decide)) fun w78 hbw HM a HF => ?_
 refine fp HF 3 35 [(81, .bool ((qo byA : Int) != (qo byA : Int)))] fun a HF => ?_
 rcases HF.tf 81 rfl with ⟨hb81, HF⟩ | ⟨hb81, HF⟩
 ·
  have hd81 := bne_iff_ne.1 hb81
  exact absurd rfl hd81
 have hd81 := bne_eq_false_iff_eq.1 hb81
 refine fp HF 1 38 [(82, .slice A31 16 c31)] fun a HF => ?_
 refine fo HF 39 rfl rfl ?_
 refine qu HF HM (vs := [(0, vQ 4), (1, vQ 1), (2, vQ 0), (3, vQ 1), (4, vQ 3), (5, vQ 5), (6, vQ 1), (7, vQ 5), (8, vQ 0), (9, vQ 1024), (10, vQ 0), (11, vQ 1), (12, vQ 1), (13, vQ 3072), (14, vQ 0), (15, vQ 3072)]) (cs := #[vQ 4, vQ 1, vQ 0, vQ 1, vQ 3, vQ 5, vQ 1, vQ 5, vQ 0, vQ 1024, vQ 0, vQ 1, vQ 1, vQ 3072, vQ 0, vQ 3072]) rfl q5 (by decide) rfl (by kernel_rfl) rfl (by decide) ?_
 clear HF HM; intro a w83 g83 HF HM
 refine fo HF 40 rfl rfl ?_
 refine e_is HF HM [.slice A31 16 c31, vS g83 16 16] (.bool true) rfl rfl (qg9 A31 c31 nuB (some ⟨g83, 0, none⟩) 16 _ (HM.rd (i := 2) rfl) (HM.rdBlk (i := 0) (n := 16) (size := 1) rfl rfl) (by decide)) fun w84 hbw HM a HF => ?_
 refine fp HF 4 41 [(88, .slice A41 9 c41), (87, .bool false)] fun a HF => ?_
 refine fy HF HM 45 rfl rfl rfl (Yl.len rfl rfl (by kernel_rfl)) fun a HF => ?_
 refine fp HF 4 46 [(93, .slice A41 9 c41), (92, .bool false)] fun a HF => ?_
 obtain ⟨gA41, rfl⟩ := qdg (HM.own (i := 1) rfl) (Nat.lt_of_le_of_lt (Nat.zero_le _) (show 6 < 9 from by omega))
 refine fy HF HM 50 rfl rfl rfl (v := vP gA41 18) (Yl.indexAddr (ad := ⟨gA41, 0, none⟩) (y := 6) (sz := 3) rfl rfl rfl (by omega) (by kernel_rfl)) fun a HF => ?_
 refine fy HF HM 51 rfl rfl rfl (v := .agg sec6.cells) (Yl.qr rfl rfl qma rfl (fun _ h => h.qfx qhl (i := 1) rfl (exS_6))) fun a HF => ?_
 replace HF := HF.sp 95 (.agg sec6.cells) rfl (rfl)
 refine fy HF HM 52 rfl rfl rfl (v := .agg #[.string (ByteArray.mk #[116, 97, 115, 107, 115]), vI 9, vI 20]) (Yl.build (vs := [(0, .string (ByteArray.mk #[116, 97, 115, 107, 115])), (1, vI 9), (2, vI 20)]) rfl (by kernel_rfl) (by kernel_rfl)) fun a HF => ?_
 replace HF := HF.sp 96 (.agg sec6.cells) rfl (rfl)
 refine fy HF HM 53 rfl rfl rfl (v := .bool (!(secEq sec6 sec6))) (Yl.qb9 rfl rfl rfl (qp3 sec6 sec6)) fun a HF => ?_
 refine fp HF 1 54 [(98, .bool (!(secEq sec6 sec6)))] fun a HF => ?_
 refine qb rfl ?_
 replace HF := HF.to [(98, .bool (!(secEq sec6 sec6))), (2, vP g2 0), (1, vP g1 0), (0, .bool false)]
 rcases HF.tf 98 rfl with ⟨hb98, HF⟩ | ⟨hb98, HF⟩
 ·
  rw [qgw] at hb98; cases hb98
 refine qc HF rfl (wp_skip (wp_seq (qa ?_)))
 refine fy HF HM 0 rfl rfl rfl (v := .agg ((exA e6 e9 e10 e12 e13).cells)) (Yl.qr rfl rfl q3 rfl (fun _ h => qf (h.blk (i := 5) rfl))) fun a HF => ?_
 refine fo HF 1 rfl rfl ?_
 refine qs HF HM (cs := #[vI 0, vI 0, vQ 0, .slice none 0 0, .slice none 0 0, .slice none 0 0, .slice none 0 0, .slice none 0 0]) rfl (by kernel_rfl) rfl (by decide) ?_
 clear HF HM; intro a w13 g13 HF HM
 refine fo HF 2 rfl rfl ?_
 refine e_sa HF HM 0 rfl rfl rfl rfl rfl q3 rfl rfl (qd3 (exA e6 e9 e10 e12 e13)) ?_
 clear HM; intro w9_2 HM
 refine qb rfl (wp_seq (qa ?_))
 refine fp HF 1 0 [(100, vP g13 0)] fun a HF => ?_
 refine fo HF 1 rfl rfl ?_
 refine zu HF HM (i := 0) rfl rfl rfl rfl (by kernel_rfl) rfl rfl (by simp [Snm.cells]) ?_
 clear HM; intro w10_1 HM
 refine qb rfl (wp_seq (qa ?_))
 refine fy HF HM 0 rfl rfl rfl (v := .agg ((exA e6 e9 e10 e12 e13).cells)) (Yl.qr rfl rfl q3 rfl (fun _ h => qf (h.blk (i := 6) rfl))) fun a HF => ?_
 refine fo HF 1 rfl rfl ?_
 refine qs HF HM (cs := #[vI 0, vI 0, vQ 0, .slice none 0 0, .slice none 0 0, .slice none 0 0, .slice none 0 0, .slice none 0 0]) rfl (by kernel_rfl) rfl (by decide) ?_
 clear HF HM; intro a w14 g14 HF HM
 refine fo HF 2 rfl rfl ?_
 refine e_sa HF HM 0 rfl rfl rfl rfl rfl q3 rfl rfl (qd3 (exA e6 e9 e10 e12 e13)) ?_
 clear HM; intro w11_2 HM
 refine qb rfl (wp_seq (qa ?_))
 refine fo HF 0 rfl rfl ?_
 refine qu HF HM (vs := [(0, vI 0), (1, vI 0)]) (cs := #[vI 0, vI 0]) rfl qca (by decide) rfl (by kernel_rfl) rfl (by decide) ?_
 clear HF HM; intro a w102 g102 HF HM
 refine fp HF 2 1 [(104, vP g14 4)] fun a HF => ?_
 refine fo HF 3 rfl rfl ?_
 refine zu HF HM (i := 1) rfl rfl rfl rfl (by kernel_rfl) rfl rfl (by simp [Snm.cells]) ?_
 clear HM; intro w12_3 HM
 refine qb rfl (wp_seq (qa ?_))
 refine fy HF HM 0 rfl rfl rfl (v := .agg #[vI 0, vI 1, vQ 0, vS e6 1 1, vS e9 1 1, vS e10 1 1, .slice none 0 0, vS e13 1 1]) (Yl.qr rfl rfl q3 rfl (fun _ h => qf (h.blk (i := 2) rfl))) fun a HF => ?_
 refine fo HF 1 rfl rfl ?_
 refine e_is HF HM [.agg #[vI 0, vI 1, vQ 0, vS e6 1 1, vS e9 1 1, vS e10 1 1, .slice none 0 0, vS e13 1 1]] (vI 330) rfl rfl (qn0 (a := e6) (b := e9) (c := e10) (d := e12) (e := e13) _ (qju (HM.blk (i := 9) rfl) (HM.blk (i := 10) rfl) (HM.blk (i := 11) rfl) (HM.blk (i := 12) rfl) (HM.blk (i := 13) rfl))) fun w106 hbw HM a HF => ?_
 refine fp HF 2 2 [(108, .bool true)] fun a HF => ?_
 refine fy HF HM 4 rfl rfl rfl (v := .agg #[vI 1, vI 1, vQ 0, vS e6 1 1, vS g102 2 2, vS e10 1 1, .slice none 0 0, vS e13 1 1]) (Yl.qr rfl rfl q3 rfl (fun _ h => qf (h.blk (i := 1) rfl))) fun a HF => ?_
 refine fo HF 5 rfl rfl ?_
 refine e_is HF HM [.agg #[vI 1, vI 1, vQ 0, vS e6 1 1, vS g102 2 2, vS e10 1 1, .slice none 0 0, vS e13 1 1]] (vI 331) rfl rfl (qn1 (a := e6) (b := g102) (c := e10) (d := e12) (e := e13) _ (qw3 (HM.blk (i := 9) rfl) (HM.blk (i := 0) rfl) (HM.blk (i := 11) rfl) (HM.blk (i := 12) rfl) (HM.blk (i := 13) rfl))) fun w110 hbw HM a HF => ?_
 refine fp HF 3 6 [(113, .bool true)] fun a HF => ?_
 refine fy HF HM 9 rfl rfl rfl (v := .agg ((exA e6 e9 e10 e12 e13).cells)) (Yl.qr rfl rfl q3 rfl (fun _ h => qf (h.blk (i := 8) rfl))) fun a HF => ?_
 refine fy HF HM 10 rfl rfl rfl (v := .agg ((exB e6 e17 e18 e20 e22 e23).cells)) (Yl.qr rfl rfl q3 rfl (fun _ h => qf (h.blk (i := 7) rfl))) fun a HF => ?_
 refine fo HF 11 rfl rfl ?_
 refine e_is HF HM [.agg ((exA e6 e9 e10 e12 e13).cells), .agg ((exB e6 e17 e18 e20 e22 e23).cells)] (.bool false) rfl rfl (qn2 _ (qju (HM.blk (i := 9) rfl) (HM.blk (i := 10) rfl) (HM.blk (i := 11) rfl) (HM.blk (i := 12) rfl) (HM.blk (i := 13) rfl)) (qmt (HM.blk (i := 9) rfl) (HM.blk (i := 14) rfl) (HM.blk (i := 15) rfl) (HM.blk (i := 16) rfl) (HM.blk (i := 17) rfl) (HM.blk (i := 18) rfl))) fun w116 hbw HM a HF => ?_
 refine fp HF 3 12 [(119, .bool true)] fun a HF => ?_
 refine fy HF HM 15 rfl rfl rfl (v := .agg ((exB e6 e17 e18 e20 e22 e23).cells)) (Yl.qr rfl rfl q3 rfl (fun _ h => qf (h.blk (i := 7) rfl))) fun a HF => ?_
 refine fy HF HM 16 rfl rfl rfl (v := .agg ((exB e6 e17 e18 e20 e22 e23).cells)) (Yl.qr rfl rfl q3 rfl (fun _ h => qf (h.blk (i := 7) rfl))) fun a HF => ?_
 refine fo HF 17 rfl rfl ?_
 refine e_is HF HM [.agg ((exB e6 e17 e18 e20 e22 e23).cells), .agg ((exB e6 e17 e18 e20 e22 e23).cells)] (.bool true) rfl rfl (qn3 _ (qmt (HM.blk (i := 9) rfl) (HM.blk (i := 14) rfl) (HM.blk (i := 15) rfl) (HM.blk (i := 16) rfl) (HM.blk (i := 17) rfl) (HM.blk (i := 18) rfl))) fun w122 hbw HM a HF => ?_
 refine fp HF 2 18 [(0, .bool true)] fun a HF => ?_
 refine qb rfl (wp_ret ?_)
 exact ret1 rfl HF (.tmp HF rfl) (⟨rfl, HM.below⟩)
theorem qf6 (p q : Snm) (hoka : p.st.sta.Ok) (hca : StCap p.st) (B : Nat) (w : World) (hL : LaidX B w) (hB : B ≤ w.heap.size) (hxa : StRd w p.st) (hxb : StRd w q.st) :
    Calls Tryz.prog 3 #[.agg p.cells, .agg q.cells] w (Is w (.bool true)) := by
 refine qg (vs := [.agg p.cells, .agg q.cells]) Tryz.func3 rfl rfl (by kernel_rfl) (σ0 := [(0, .agg p.cells), (1, .agg q.cells)]) rfl ?_
 intro a HF
 have HM := Mem.start w
 refine wp_seq (qa ?_)
 refine fo HF 0 rfl rfl ?_
 refine e_box HF HM (cs := p.cells) rfl rfl rfl rfl (by decide) ?_
 clear HF HM; intro a w2 g2 HF HM
 refine fo HF 1 rfl rfl ?_
 refine e_box HF HM (cs := q.cells) rfl rfl rfl rfl (by decide) ?_
 clear HF HM; intro a w3 g3 HF HM
 refine fp HF 1 2 [(4, .bool false)] fun a HF => ?_
 refine qb rfl (wp_seq (qa ?_))
 refine fp HF 1 0 [(5, vP g2 1)] fun a HF => ?_
 refine fy HF HM 1 rfl rfl rfl (v := .agg #[vI p.st.cpus, vQ p.st.credit, .slice p.st.gA p.st.gs.length p.st.gc, .slice p.st.lA p.st.cl.length p.st.lc, .slice p.st.uA p.st.cu.length p.st.uc, .slice p.st.tA p.st.ts.length p.st.tc, .slice p.st.sA p.st.rs.length p.st.sc]) (Yl.qr rfl rfl si_st rfl (fun _ h => h.sub (i := 1) rfl 1 rfl)) fun a HF => ?_
 replace HF := HF.sp 6 (.agg p.st.cells) rfl (rfl)
 refine fo HF 2 rfl rfl ?_
 refine e_is HF HM [.agg p.st.cells] (.bool (decide (LitP p.st))) rfl rfl (qg8 p.st _ (hxa.old HM)) fun w7 hbw HM a HF => ?_
 refine fp HF 2 3 [(9, .bool (!(decide (LitP p.st))))] fun a HF => ?_
 rcases HF.tf 9 rfl with ⟨hb9, HF⟩ | ⟨hb9, HF⟩
 ·
  have hd9 := of_decide_eq_false ((Bool.not_eq_true' _).mp hb9)
  refine fp HF 11 5 [(20, .bool true)] fun a HF => ?_
  refine fo HF 16 rfl rfl ?_
  refine e_is HF HM [] (.bool true) rfl rfl (qc3 B _ (hL.mem HM hB) (HM.le hB)) fun w21 hbw HM a HF => ?_
  refine fp HF 2 17 [(4, .bool true)] fun a HF => ?_
  refine qb rfl (wp_ret ?_)
  exact ret1 rfl HF (.tmp HF rfl) (⟨rfl, HM.below⟩)
 have hd9 := of_decide_eq_true ((Bool.not_eq_false' _).mp hb9)
 have hfa := qp2 (of_decide_eq_true ((Bool.not_eq_false' _).mp hb9))
 refine fp HF 1 5 [(10, vP g3 1)] fun a HF => ?_
 refine fy HF HM 6 rfl rfl rfl (v := .agg #[vI q.st.cpus, vQ q.st.credit, .slice q.st.gA q.st.gs.length q.st.gc, .slice q.st.lA q.st.cl.length q.st.lc, .slice q.st.uA q.st.cu.length q.st.uc, .slice q.st.tA q.st.ts.length q.st.tc, .slice q.st.sA q.st.rs.length q.st.sc]) (Yl.qr rfl rfl si_st rfl (fun _ h => h.sub (i := 0) rfl 1 rfl)) fun a HF => ?_
 replace HF := HF.sp 11 (.agg q.st.cells) rfl (rfl)
 refine fo HF 7 rfl rfl ?_
 refine e_is HF HM [.agg q.st.cells] (.bool (decide (LitP q.st))) rfl rfl (qg8 q.st _ (hxb.old HM)) fun w12 hbw HM a HF => ?_
 refine fp HF 3 8 [(15, .bool (!(decide (LitP q.st))))] fun a HF => ?_
 rcases HF.tf 15 rfl with ⟨hb15, HF⟩ | ⟨hb15, HF⟩
 ·
  have hd15 := of_decide_eq_false ((Bool.not_eq_true' _).mp hb15)
  refine fp HF 5 11 [(20, .bool true)] fun a HF => ?_
  refine fo HF 16 rfl rfl ?_
  refine e_is HF HM [] (.bool true) rfl rfl (qc3 B _ (hL.mem HM hB) (HM.le hB)) fun w21 hbw HM a HF => ?_
  refine fp HF 2 17 [(4, .bool true)] fun a HF => ?_
  refine qb rfl (wp_ret ?_)
  exact ret1 rfl HF (.tmp HF rfl) (⟨rfl, HM.below⟩)
 have hd15 := of_decide_eq_true ((Bool.not_eq_false' _).mp hb15)
 have hfb := qp2 (of_decide_eq_true ((Bool.not_eq_false' _).mp hb15))
 refine fy HF HM 11 rfl rfl rfl (v := .agg p.cells) (Yl.qr rfl rfl q3 rfl (fun _ h => qf (h.blk (i := 1) rfl))) fun a HF => ?_
 replace HF := HF.sp 16 (.agg p.cells) rfl (rfl)
 refine fy HF HM 12 rfl rfl rfl (v := .agg q.cells) (Yl.qr rfl rfl q3 rfl (fun _ h => qf (h.blk (i := 0) rfl))) fun a HF => ?_
 replace HF := HF.sp 17 (.agg q.cells) rfl (rfl)
 refine fo HF 13 rfl rfl ?_
 refine e_is HF HM [.agg p.cells, .agg q.cells] (.bool true) rfl rfl (qri p q hoka hfa hca hfb B _ (hL.mem HM hB) (HM.le hB) (hxa.old HM) (hxb.old HM)) fun w18 hbw HM a HF => ?_
 refine fp HF 2 14 [(20, .bool true)] fun a HF => ?_
 refine fo HF 16 rfl rfl ?_
 refine e_is HF HM [] (.bool true) rfl rfl (qc3 B _ (hL.mem HM hB) (HM.le hB)) fun w21 hbw HM a HF => ?_
 refine fp HF 2 17 [(4, .bool true)] fun a HF => ?_
 refine qb rfl (wp_ret ?_)
 exact ret1 rfl HF (.tmp HF rfl) (⟨rfl, HM.below⟩)
end Go.Proofs.YtggpmlaappaopaaGreatDoor
