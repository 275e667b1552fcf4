/- Parts. -/
import Derived.Test.YtfeheccoijnbaaaDoorQwMade
import Derived.Test.YtfeheccoijnbaaaDoorQwMade7
import Derived.Test.YtfeheccoijnbaaaDoorQwZ2
set_option linter.all false
set_option maxRecDepth 100000
set_option maxHeartbeats 8000000
namespace Go.Proofs.YtfeheccoijnbaaaDoor
open Go.RowKit
theorem qu5 (A : Option Addr) (c : Nat) (l : List Nat) (BB : Nat) (w : World) (hL : LaidX BB w) (hB : BB ≤ w.heap.size) (hr : Rd w w.heap.size 1 A l.length (l.map B8)) (hc : l.length ≤ c) (hl : ∀ b ∈ l, b < 256) (hn : l.length ≤ 100000000) :
    Calls Tryd.prog 22 #[.slice A l.length c] w (Is w (.tuple #[.int .i64 ((qfm l).1.length : Int), .int .i64 ((qfm l).2.1 : Int), .int .i64 ((qfm l).2.2 : Int)])) := by
 refine qis (vs := [.slice A l.length c]) Tryd.func22 rfl rfl (by kernel_rfl) (σ0 := [(0, .slice A l.length c)]) rfl ?_
 intro a HF
 have HM := Mem.start w
 refine wp_seq (qa ?_)
 refine fo HF 0 rfl rfl ?_
 refine qr HF HM (cs := #[vI 0]) rfl (by kernel_rfl) rfl (by decide) ?_
 clear HF HM; intro a w2 g2 HF HM
 refine fo HF 1 rfl rfl ?_
 refine qr HF HM (cs := #[vI 0]) rfl (by kernel_rfl) rfl (by decide) ?_
 clear HF HM; intro a w3 g3 HF HM
 refine fo HF 2 rfl rfl ?_
 refine qr HF HM (cs := #[vI 0]) rfl (by kernel_rfl) rfl (by decide) ?_
 clear HF HM; intro a w4 g4 HF HM
 refine qb rfl (wp_seq (wp_seq (qa ?_)))
 refine fp HF 1 0 [(9, .slice A l.length c)] fun a HF => ?_
 refine fy HF HM 1 rfl rfl rfl (Yl.len rfl rfl (by kernel_rfl)) fun a HF => ?_
 refine fp HF 1 2 [(11, .bool (decide ((l.length : Int) > (524288 : Int))))] fun a HF => ?_
 refine qb rfl ?_
 rcases HF.tf 11 rfl with ⟨hb11, HF⟩ | ⟨hb11, HF⟩
 ·
  have hd11 := of_decide_eq_true hb11
  refine qf HF rfl (wp_seq (qa ?_))
  refine fo HF 0 rfl rfl ?_
  refine za HF HM (i := 2) (cs := #[vI 0]) rfl rfl rfl rfl (by kernel_rfl) rfl rfl (by simp) ?_
  clear HM; intro w2_0 HM
  refine fo HF 1 rfl rfl ?_
  refine za HF HM (i := 1) (cs := #[vI 0]) rfl rfl rfl rfl (by kernel_rfl) rfl rfl (by simp) ?_
  clear HM; intro w2_1 HM
  refine fo HF 2 rfl rfl ?_
  refine za HF HM (i := 0) (cs := #[vI 0]) rfl rfl rfl rfl (by kernel_rfl) rfl rfl (by simp) ?_
  clear HM; intro w2_2 HM
  refine qb rfl (wp_ret ?_)
  refine qv3 ?_
  exact ret3 rfl HF (.cell1 (i := 2) HF HM rfl rfl (by kernel_rfl) rfl) (.cell1 (i := 1) HF HM rfl rfl (by kernel_rfl) rfl) (.cell1 (i := 0) HF HM rfl rfl (by kernel_rfl) rfl) (⟨by rw [show qfm l = ([], 0, 3) from if_pos (by omega)]; rfl, HM.below⟩)
 have hd11 := of_decide_eq_false hb11
 refine qe HF rfl (wp_skip (wp_seq (qa ?_)))
 refine fo HF 0 rfl rfl ?_
 refine qr HF HM (cs := #[vI 0]) rfl (by kernel_rfl) rfl (by decide) ?_
 clear HF HM; intro a w5 g5 HF HM
 refine fo HF 1 rfl rfl ?_
 refine qr HF HM (cs := #[vI 0]) rfl (by kernel_rfl) rfl (by decide) ?_
 clear HF HM; intro a w6 g6 HF HM
 refine fo HF 2 rfl rfl ?_
 refine za HF HM (i := 1) (cs := #[vI 0]) rfl rfl rfl rfl (by kernel_rfl) rfl rfl (by simp) ?_
 clear HM; intro w3_2 HM
 refine fo HF 3 rfl rfl ?_
 refine za HF HM (i := 0) (cs := #[vI 0]) rfl rfl rfl rfl (by kernel_rfl) rfl rfl (by simp) ?_
 clear HM; intro w3_3 HM
 refine qb rfl (wp_seq (wp_seq (qa ?_)))
 refine fp HF 1 0 [(12, .slice A l.length c)] fun a HF => ?_
 refine fo HF 1 rfl rfl ?_
 refine e_cl HF [.slice A l.length c] rfl rfl (qqw A l.length c _) ?_
 rintro _ w13 ⟨gp, rfl, hm⟩
 refine ⟨_, rfl, ?_⟩
 replace HM := HM.join hm
 clear HF; intro a HF
 refine qb rfl (wp_block ?_)
 refine qv2 HF HM (fun F => ∃ (k : Nat) (p : Nat) (f : Nat), (([] : List Nat).length ≤ f) ∧ ((qx l.length l).1.length = k + (qx f ([] : List Nat)).1.length) ∧ ((qx l.length l).2.1 = p + (qx f ([] : List Nat)).2.1) ∧ ((qx l.length l).2.2 = (qx f ([] : List Nat)).2.2) ∧ (k + ([] : List Nat).length ≤ l.length) ∧ (p + ([] : List Nat).length ≤ l.length) ∧ F = [.blk g6 #[vI p] 3, .blk g5 #[vI k] 3, .blk g4 #[vI 0] 36, .blk g3 #[vI 0] 3, .blk g2 #[vI 0] 3]) (fun c F => c = .ret ∧ ∃ (k : Nat) (p : Nat) (e : Nat), ((qx l.length l).1.length = k) ∧ ((qx l.length l).2.1 = p) ∧ ((qx l.length l).2.2 = e) ∧ F = [.blk g6 #[vI p] 3, .blk g5 #[vI k] 3, .blk g4 #[vI e] 36, .blk g3 #[vI p] 3, .blk g2 #[vI k] 3]) rfl (by kernel_rfl) ?_ ?_ ?_
 ·
  clear HF HM; intro lp B rec w1 hrec HM
  have hy : qhw w lp (fun rest F => ∃ (k : Nat) (p : Nat) (f : Nat), (rest.length ≤ f) ∧ ((qx l.length l).1.length = k + (qx f rest).1.length) ∧ ((qx l.length l).2.1 = p + (qx f rest).2.1) ∧ ((qx l.length l).2.2 = (qx f rest).2.2) ∧ (k + rest.length ≤ l.length) ∧ (p + rest.length ≤ l.length) ∧ F = (.obj lp (.loop (rec .ready none)) :: .obj B (.deferred (some [])) :: [.blk g6 #[vI p] 3, .blk g5 #[vI k] 3, .blk g4 #[vI 0] 36, .blk g3 #[vI 0] 3, .blk g2 #[vI 0] 3])) (fun F => ∃ (k : Nat) (p : Nat) (e : Nat), ((qx l.length l).1.length = k) ∧ ((qx l.length l).2.1 = p) ∧ ((qx l.length l).2.2 = e) ∧ F = (.obj lp (.loop (rec .done (some .ret))) :: .obj B (.deferred (some [])) :: [.blk g6 #[vI p] 3, .blk g5 #[vI k] 3, .blk g4 #[vI e] 36, .blk g3 #[vI p] 3, .blk g2 #[vI k] 3])) := by
   rintro rest F fr w3 A9 c9 b m er ⟨k, p, f, hf, hk, hp, he, hkn, hpn, rfl⟩ hq hne hrl hcb HM
   replace HM := HM.picksT (fs' := (.obj lp (.loop (rec .ready none)) :: .row (.slice A9 b.evs.length c9) b.evs.length (b.evs.flatMap evL) 45 11 :: .obj B (.deferred (some [])) :: .blk g6 #[vI p] 3 :: .blk g5 #[vI k] 3 :: .blk g4 #[vI 0] 36 :: .blk g3 #[vI 0] 3 :: .blk g2 #[vI 0] 3 :: fr)) 8 [1, 0, 2, 3, 4, 5, 6, 7] (by decide) (by decide) rfl
   refine qj9 (v1 := .agg #[.int .u8 (b.kind : Int), .int .u8 (b.cpu : Int), .int .i64 b.lost, .int .i64 b.next, .slice A9 b.evs.length c9, .int .i64 (m : Int)]) (v2 := vI er) hrec HM (by decide) (by decide) fun a HF => ?_
   refine wpIn_seq ?_
   refine qbk ?_
   refine fo HF 0 rfl rfl ?_
   refine qr HF HM (cs := #[vB 0, vB 0, vI 0, vI 0, .slice none 0 0, vI 0]) rfl (by kernel_rfl) rfl (by decide) ?_
   clear HF HM; intro a w7 g7 HF HM
   refine fo HF 1 rfl rfl ?_
   refine e_sa HF HM 0 rfl rfl rfl rfl rfl qu4 rfl rfl (by simp [Value.oneCell']) ?_
   clear HM; intro w5_1 HM
   refine qb rfl ?_
   refine qbk ?_
   refine fp HF 1 0 [(8, vI er)] fun a HF => ?_
   refine qb rfl ?_
   refine ⟨(.blk g7 #[.int .u8 (b.kind : Int), .int .u8 (b.cpu : Int), .int .i64 b.lost, .int .i64 b.next, .slice A9 b.evs.length c9, .int .i64 (m : Int)] 102 :: .row (.slice A9 b.evs.length c9) b.evs.length (b.evs.flatMap evL) 45 11 :: .obj B (.deferred (some [])) :: .blk g6 #[vI p] 3 :: .blk g5 #[vI k] 3 :: .blk g4 #[vI 0] 36 :: .blk g3 #[vI 0] 3 :: .blk g2 #[vI 0] 3 :: fr), HM.picksT (fs' := (.obj lp (.loop (rec .ready none)) :: .blk g7 #[.int .u8 (b.kind : Int), .int .u8 (b.cpu : Int), .int .i64 b.lost, .int .i64 b.next, .slice A9 b.evs.length c9, .int .i64 (m : Int)] 102 :: .row (.slice A9 b.evs.length c9) b.evs.length (b.evs.flatMap evL) 45 11 :: .obj B (.deferred (some [])) :: .blk g6 #[vI p] 3 :: .blk g5 #[vI k] 3 :: .blk g4 #[vI 0] 36 :: .blk g3 #[vI 0] 3 :: .blk g2 #[vI 0] 3 :: fr)) 9 [1, 0, 2, 3, 4, 5, 6, 7, 8] (by decide) (by decide) rfl, fun w4 HM => ?_⟩
   refine wpIn_block ?_
   refine wpIn_seq ?_
   refine wpIn_seq ?_
   refine qbk ?_
   refine fp HF 2 0 [(17, .bool ((er : Int) != (0 : Int)))] fun a HF => ?_
   refine qb rfl ?_
   rcases HF.tf 17 rfl with ⟨hb17, HF⟩ | ⟨hb17, HF⟩
   ·
    have hd17 := bne_iff_ne.1 hb17
    have hg := qlm (f := f) (by omega) hne hq (by omega)
    rw [hg] at hk hp he
    simp only [List.length_nil, Nat.add_zero] at hk hp
    refine qlj HF rfl ?_
    refine wpIn_seq ?_
    refine qqc HM (.obj lp (.loop (rec .busy none)) :: .blk g7 #[.int .u8 (b.kind : Int), .int .u8 (b.cpu : Int), .int .i64 b.lost, .int .i64 b.next, .slice A9 b.evs.length c9, .int .i64 (m : Int)] 102 :: .row (.slice A9 b.evs.length c9) b.evs.length (b.evs.flatMap evL) 45 11 :: .obj B (.deferred (some [])) :: .blk g6 #[vI p] 3 :: .blk g5 #[vI k] 3 :: .blk g4 #[vI 0] 36 :: .blk g3 #[vI 0] 3 :: fr) 9 [0, 1, 2, 3, 4, 5, 6, 7] [4, 5] fun HM HS => ?_
    refine ap HF (fun _ => HS) [2] #[false, false, true, false, false, false] [(20, vI er)] fun a HF => ?_
    refine ay HF HS 0 rfl rfl rfl (Yl.qi rfl rfl (by kernel_rfl) (fun _ h => h.cell (i := 5) rfl rfl)) fun a HF => ?_
    refine ay HF HS 1 rfl rfl rfl (Yl.qi rfl rfl (by kernel_rfl) (fun _ h => h.cell (i := 4) rfl rfl)) fun a HF => ?_
    refine qj [3] (by kernel_rfl) rfl ?_
    refine all_cons ?_ all_nil
    refine ql HF (i := 3) rfl rfl ?_
    refine za HF HM (i := 8) (cs := #[vI 0]) rfl rfl rfl rfl (by kernel_rfl) rfl rfl (by simp) ?_
    clear HM; intro w8_3 HM
    refine keepS (HM.picksT 9 [0, 1, 2, 3, 4, 5, 6, 7] (by decide) (by decide) rfl) (fun HS => ?_)
    refine qj [4] (by kernel_rfl) rfl ?_
    refine all_cons ?_ all_nil
    refine ql HF (i := 4) rfl rfl ?_
    refine za HF HM (i := 7) (cs := #[vI 0]) rfl rfl rfl rfl (by kernel_rfl) rfl rfl (by simp) ?_
    clear HM; intro w8_4 HM
    refine noS (by kernel_rfl) ?_
    refine qj [5] (by kernel_rfl) rfl ?_
    refine all_cons ?_ all_nil
    refine ql HF (i := 5) rfl rfl ?_
    refine za HF HM (i := 6) (cs := #[vI 0]) rfl rfl rfl rfl (by kernel_rfl) rfl rfl (by simp) ?_
    clear HM; intro w8_5 HM
    refine noS (by kernel_rfl) ?_
    refine qm (by kernel_rfl) ?_
    refine wpIn_ret ?_
    refine ⟨(.obj B (.deferred (some [])) :: .blk g6 #[vI p] 3 :: .blk g5 #[vI k] 3 :: .blk g4 #[vI er] 36 :: .blk g3 #[vI p] 3 :: .blk g2 #[vI k] 3 :: fr), HM.picksT (fs' := (.obj lp (.loop (rec .busy none)) :: .obj B (.deferred (some [])) :: .blk g6 #[vI p] 3 :: .blk g5 #[vI k] 3 :: .blk g4 #[vI er] 36 :: .blk g3 #[vI p] 3 :: .blk g2 #[vI k] 3 :: fr)) 9 [0, 3, 4, 5, 6, 7, 8] (by decide) (by decide) rfl, fun w5 HM => ?_⟩
    exact ⟨(.obj lp (.loop (rec .done (some .ret))) :: .obj B (.deferred (some [])) :: .blk g6 #[vI p] 3 :: .blk g5 #[vI k] 3 :: .blk g4 #[vI er] 36 :: .blk g3 #[vI p] 3 :: .blk g2 #[vI k] 3 :: []), HM, .inr ⟨(by omega), rfl, k, p, er, hk, hp, he, rfl⟩⟩
   have hd17 := bne_eq_false_iff_eq.1 hb17
   have he0 : er = 0 := by omega
   have hq0 := hq
   rw [he0] at hq0
   have hg := qkc (f := f) (by omega) hne hq0
   have hof := qim hrl hq0
   have hm13 := hof.least
   have hml := hof.len
   rw [hg] at hk hp he
   dsimp only at hk hp he
   rw [List.length_cons] at hk
   refine qj8 HF rfl ?_
   refine wpIn_skip ?_
   refine wpIn_seq ?_
   refine qbk ?_
   refine fy HF HM 0 rfl rfl rfl (Yl.qi rfl rfl (by kernel_rfl) (fun _ h => h.cell (i := 5) rfl rfl)) fun a HF => ?_
   refine fp HF 1 1 [(22, vI (IntKind.i64.wrap ((k : Int) + 1)))] fun a HF => ?_
   replace HF := HF.sp 22 (vI (k + 1 : Nat)) rfl (qp (by omega) (by omega))
   refine fo HF 2 rfl rfl ?_
   refine za HF HM (i := 5) (cs := #[vI k]) rfl rfl rfl rfl (by kernel_rfl) rfl rfl (by simp) ?_
   clear HM; intro w9_2 HM
   refine qb rfl ?_
   refine qbk ?_
   refine fy HF HM 0 rfl rfl rfl (Yl.qi rfl rfl (by kernel_rfl) (fun _ h => h.cell (i := 4) rfl rfl)) fun a HF => ?_
   refine fp HF 1 1 [(24, vP g7 5)] fun a HF => ?_
   refine fy HF HM 2 rfl rfl rfl (v := vI m) (Yl.qi rfl rfl (by kernel_rfl) (fun _ h => h.cell (i := 1) rfl (rfl))) fun a HF => ?_
   refine fp HF 1 3 [(26, vI (IntKind.i64.wrap ((p : Int) + (m : Int))))] fun a HF => ?_
   replace HF := HF.sp 26 (vI (p + m : Nat)) rfl (qp (by omega) (by omega))
   refine fo HF 4 rfl rfl ?_
   refine za HF HM (i := 4) (cs := #[vI p]) rfl rfl rfl rfl (by kernel_rfl) rfl rfl (by simp) ?_
   clear HM; intro w10_4 HM
   refine qb rfl ?_
   refine ⟨(.obj B (.deferred (some [])) :: .blk g6 #[vI (p + m : Nat)] 3 :: .blk g5 #[vI (k + 1 : Nat)] 3 :: .blk g4 #[vI 0] 36 :: .blk g3 #[vI 0] 3 :: .blk g2 #[vI 0] 3 :: fr), HM.picksT (fs' := (.obj lp (.loop (rec .busy none)) :: .obj B (.deferred (some [])) :: .blk g6 #[vI (p + m : Nat)] 3 :: .blk g5 #[vI (k + 1 : Nat)] 3 :: .blk g4 #[vI 0] 36 :: .blk g3 #[vI 0] 3 :: .blk g2 #[vI 0] 3 :: fr)) 9 [0, 3, 4, 5, 6, 7, 8] (by decide) (by decide) rfl, fun w5 HM => ?_⟩
   exact ⟨(.obj lp (.loop (rec .ready none)) :: .obj B (.deferred (some [])) :: .blk g6 #[vI (p + m : Nat)] 3 :: .blk g5 #[vI (k + 1 : Nat)] 3 :: .blk g4 #[vI 0] 36 :: .blk g3 #[vI 0] 3 :: .blk g2 #[vI 0] 3 :: []), HM, .inl ⟨(by omega), rfl, k + 1, p + m, (f - 1), by rw [List.length_drop]; omega, by omega, by omega, he, by rw [List.length_drop]; omega, by rw [List.length_drop]; omega, rfl⟩⟩
  refine (qnv w w1 gp lp BB A c l _ _ _ hL hB hr hc hl (by omega) hy ⟨0, 0, l.length, Nat.le_refl _, (Nat.zero_add _).symm, (Nat.zero_add _).symm, rfl, by omega, by omega, rfl⟩ (HM.picks [2, 0, 1, 3, 4, 5, 6, 7] (by decide) rfl)).mono ?_
  rintro r w2 ⟨v, rfl, F2, HM2, (⟨k, p, f, hf, hk, hp, he, hkn, hpn, rfl⟩ | ⟨k, p, e, hk, hp, he, rfl⟩)⟩
  ·exact ⟨v, rfl, .inl ⟨_, ⟨k, p, f, hf, hk, hp, he, hkn, hpn, rfl⟩, HM2⟩⟩
  ·exact ⟨v, rfl, .inr ⟨.ret, _, ⟨rfl, k, p, e, hk, hp, he, rfl⟩, HM2⟩⟩
 ·
  clear HF HM; rintro B a w6 _ ⟨k, p, f, hf, hk, hp, he, hkn, hpn, rfl⟩ HF HM
  have hz := qll (f := f) (l := []) rfl
  rw [hz] at hk hp he
  simp only [List.length_nil, Nat.add_zero] at hk hp
  refine wp_seq ?_
  refine qan HM [.obj B (.deferred (some [])), .blk g6 #[vI p] 3, .blk g5 #[vI k] 3, .blk g4 #[vI 0] 36, .blk g3 #[vI 0] 3] [0, 1, 2, 3, 4] [3, 4] fun HM HS => ?_
  refine ay HF HS 0 rfl rfl rfl (Yl.qi rfl rfl (by kernel_rfl) (fun _ h => h.cell (i := 2) rfl rfl)) fun a HF => ?_
  refine ay HF HS 1 rfl rfl rfl (Yl.qi rfl rfl (by kernel_rfl) (fun _ h => h.cell (i := 1) rfl rfl)) fun a HF => ?_
  refine qj [2] (by kernel_rfl) rfl ?_
  refine all_cons ?_ all_nil
  refine ql HF (i := 2) rfl rfl ?_
  refine za HF HM (i := 5) (cs := #[vI 0]) rfl rfl rfl rfl (by kernel_rfl) rfl rfl (by simp) ?_
  clear HM; intro w11_2 HM
  refine keepS (HM.picks [0, 1, 2, 3, 4] (by decide) rfl) (fun HS => ?_)
  refine qj [3] (by kernel_rfl) rfl ?_
  refine all_cons ?_ all_nil
  refine ql HF (i := 3) rfl rfl ?_
  refine za HF HM (i := 4) (cs := #[vI 0]) rfl rfl rfl rfl (by kernel_rfl) rfl rfl (by simp) ?_
  clear HM; intro w11_3 HM
  refine noS (by kernel_rfl) ?_
  refine qj [4] (by kernel_rfl) rfl ?_
  refine all_cons ?_ all_nil
  refine ql HF (i := 4) rfl rfl ?_
  refine za HF HM (i := 3) (cs := #[vI 0]) rfl rfl rfl rfl (by kernel_rfl) rfl rfl (by simp) ?_
  clear HM; intro w11_4 HM
  refine noS (by kernel_rfl) ?_
  refine qm (by kernel_rfl) ?_
  refine wp_ret ?_
  refine qqd HF HM (i := 0) rfl fun a w7 HF HM => ?_
  exact ret3 rfl HF (.cell1 (i := 5) HF HM rfl rfl (by kernel_rfl) rfl) (.cell1 (i := 4) HF HM rfl rfl (by kernel_rfl) rfl) (.cell1 (i := 3) HF HM rfl rfl (by kernel_rfl) rfl) (⟨by rw [show qfm l = qx l.length l from if_neg (by omega), hk, hp, he]; rfl, HM.below⟩)
 ·
  clear HF HM; rintro _ B a w6 _ ⟨rfl, k, p, e, hk, hp, he, rfl⟩ HF HM
  refine wp_ret ?_
  refine qqd HF HM (i := 0) rfl fun a w7 HF HM => ?_
  exact ret3 rfl HF (.cell1 (i := 5) HF HM rfl rfl (by kernel_rfl) rfl) (.cell1 (i := 4) HF HM rfl rfl (by kernel_rfl) rfl) (.cell1 (i := 3) HF HM rfl rfl (by kernel_rfl) rfl) (⟨by rw [show qfm l = qx l.length l from if_neg (by omega), hk, hp, he]; rfl, HM.below⟩)
def outsL (bs : List Bk) : List Nat := bs.flatMap Bk.out
def errL : List Bk → Nat
 | [] => 0
 | b :: t => if b.err = 0 then errL t else b.err
def zu (bs : List Bk) : List Nat × Nat := if errL bs ≠ 0 then ([], errL bs) else if 524288 < (outsL bs).length then ([], 3) else (outsL bs, 0)
theorem qhx {bs : List Bk} (h : errL bs ≠ 0) : zu bs = ([], errL bs) := by unfold zu; rw [if_pos h]
theorem qln {bs : List Bk} (h : errL bs = 0) (h2 : 524288 < (outsL bs).length) : zu bs = ([], 3) := by unfold zu; rw [if_neg (by omega), if_pos h2]
theorem qqf {bs : List Bk} (h : errL bs = 0) (h2 : ¬ 524288 < (outsL bs).length) : zu bs = (outsL bs, 0) := by unfold zu; rw [if_neg (by omega), if_neg h2]
theorem qnk (bs : List Bk) : (zu bs).1.length ≤ 524288 := by
 unfold zu
 split
 ·exact Nat.zero_le _
 ·split
  ·exact Nat.zero_le _
  ·dsimp only; omega
theorem qv4 {q : List Hb} {k : Nat} (h : k < q.length) : errL ((q.drop k).map Hb.b) = if (q.getD k Hb.zero).b.err = 0 then errL ((q.drop (k + 1)).map Hb.b) else (q.getD k Hb.zero).b.err := by
 rw [qdv Hb.zero h, List.map_cons, errL]
theorem qti {q : List Hb} {k : Nat} (h : k < q.length) : outsL ((q.take (k + 1)).map Hb.b) = outsL ((q.take k).map Hb.b) ++ (q.getD k Hb.zero).b.out := by
 unfold outsL
 rw [qfs Hb.zero h, List.map_append, List.flatMap_append]
 simp
theorem qsj (bs : List Bk) : (outsL bs).length ≤ 4096 * bs.length := by
 unfold outsL
 induction bs with
 | nil => exact Nat.zero_le _
 | cons b t ih =>
  rw [List.flatMap_cons, List.length_append, List.length_cons]
  have := qpo b
  omega
theorem qqg {q : List Hb} (k : Nat) : (outsL ((q.take k).map Hb.b)).length ≤ 4096 * q.length := by
 have h := qsj ((q.take k).map Hb.b)
 rw [List.length_map, List.length_take] at h
 have : min k q.length ≤ q.length := Nat.min_le_right _ _
 omega
def zg (out : List Nat) (bs : List Bk) : List Nat × Nat := if (zu bs).2 ≠ 0 then (out, (zu bs).2) else if 524288 < out.length + (zu bs).1.length then (out, 3) else (out ++ (zu bs).1, 0)
theorem qnl {out : List Nat} {bs : List Bk} (h : (zu bs).2 ≠ 0) : zg out bs = (out, (zu bs).2) := by unfold zg; rw [if_pos h]
theorem qlo {out : List Nat} {bs : List Bk} (h : (zu bs).2 = 0) (h2 : 524288 < out.length + (zu bs).1.length) : zg out bs = (out, 3) := by unfold zg; rw [if_neg (by omega), if_pos h2]
theorem qqh {out : List Nat} {bs : List Bk} (h : (zu bs).2 = 0) (h2 : ¬ 524288 < out.length + (zu bs).1.length) : zg out bs = (out ++ (zu bs).1, 0) := by unfold zg; rw [if_neg (by omega), if_neg h2]
def endB (next : Int) : Bk := ⟨2, 0, 0, next, []⟩
theorem qum {next : Int} (h : I64 next) : (endB next).Ok := ⟨by show 2 < 256; decide, by show 0 < 256; decide, by show I64 0; unfold I64; decide, h, by intro e he; cases he⟩
def putW (out : List Nat) (lim : Int) (cpu : Nat) (l : List It) (opn : Int) : List Nat × Nat × Nat :=
 if (cutS cpu l opn lim).2 ≠ 0 then (out, 0, (cutS cpu l opn lim).2)
 else if (zg out (cutS cpu l opn lim).1).2 ≠ 0 then (out, 0, (zg out (cutS cpu l opn lim).1).2)
 else ((zg out (cutS cpu l opn lim).1).1, (cutS cpu l opn lim).1.length, 0)
theorem qsk {out : List Nat} {lim : Int} {cpu : Nat} {l : List It} {opn : Int} (h : (cutS cpu l opn lim).2 ≠ 0) : putW out lim cpu l opn = (out, 0, (cutS cpu l opn lim).2) := by unfold putW; rw [if_pos h]
theorem qsl {out : List Nat} {lim : Int} {cpu : Nat} {l : List It} {opn : Int} (h : (cutS cpu l opn lim).2 = 0) (h2 : (zg out (cutS cpu l opn lim).1).2 ≠ 0) : putW out lim cpu l opn = (out, 0, (zg out (cutS cpu l opn lim).1).2) := by unfold putW; rw [if_neg (by omega), if_pos h2]
theorem qun {out : List Nat} {lim : Int} {cpu : Nat} {l : List It} {opn : Int} (h : (cutS cpu l opn lim).2 = 0) (h2 : (zg out (cutS cpu l opn lim).1).2 = 0) : putW out lim cpu l opn = ((zg out (cutS cpu l opn lim).1).1, (cutS cpu l opn lim).1.length, 0) := by unfold putW; rw [if_neg (by omega), if_neg (by omega)]
theorem qke {out : List Nat} {bs : List Bk} (h : (zg out bs).2 ≠ 0) : (zg out bs).1 = out := by
 unfold zg at h ⊢
 split
 ·rfl
 ·split
  ·rfl
  ·rename_i h1 h2
   rw [if_neg h1, if_neg h2] at h
   exact absurd rfl h
def nextR (l : List Nat) (p : Nat) : Bk × Nat × Nat := if p = l.length then (Bk.zero, 0, 6) else readB (l.drop p)
section
variable {W w : World} {fs : List Fact} {t bt : TypeId}
theorem Mem.reBlk (h : Mem W w fs) {i g : Nat} {cs ds : Array Value} {t : TypeId} (hi : fs[i]? = some (.blk g cs t)) (he : cs = ds) : Mem W w (fs.set i (.blk g ds t)) := by
 subst he
 obtain ⟨hl, h2⟩ := List.getElem?_eq_some_iff.1 hi
 rw [← h2, List.set_getElem_self]
 exact h
theorem qhy {w w' : World} {p : List Nat × Nat} {er : Nat} {n : Int} (hb : Below w.heap.size w w') (he : p = ([], er)) (hn : n = er) : qaz w p.2 p.1 (.returned (.tuple #[.slice none 0 0, .int .i64 n])) w' := by
 subst he; subst hn
 exact ⟨⟨none, 0, rfl, World.ownsRow_nil _ _ _ _, Nat.le_refl _⟩, hb⟩
end
section
variable {W w w' : World} {fs gs : List Fact} {f g1 g2 : Fact}
theorem Mem.qwg (h : Mem W w (f :: (gs ++ (g1 :: g2 :: fs)))) : Mem W w (f :: g1 :: g2 :: (gs ++ fs)) := by
 refine h.perm (List.Perm.cons f ?_)
 have h1 : (gs ++ (g1 :: g2 :: fs)).Perm (g1 :: (gs ++ (g2 :: fs))) := List.perm_middle
 exact h1.trans (List.Perm.cons g1 List.perm_middle)
end
def WrIs (W : World) (tw : TypeId) (g : Nat) (lim : Int) (out : List Nat) (fs : List Fact) (v : Value) (r : Ending) (w' : World) : Prop :=
 r = .returned v ∧ ∃ A c, out.length ≤ c ∧ Mem W w' (.blk g #[.int .i64 lim, .slice A out.length c] tw :: .row (.slice A out.length c) out.length (out.map B8) 5 1 :: fs)
theorem WrIs.as {W w' : World} {tw : TypeId} {g : Nat} {lim : Int} {out out' : List Nat} {fs : List Fact} {v v' : Value} {r : Ending} (h : WrIs W tw g lim out fs v r w') (h1 : out = out') (h2 : v = v') : WrIs W tw g lim out' fs v' r w' := by subst h1; subst h2; exact h
theorem qgo {out R : List Nat} {bs : List Bk} {er : Nat} (h : zu bs = (R, er)) (he : er ≠ 0) : zg out bs = (out, er) := by have h1 := qnl (out := out) (bs := bs) (by rw [h]; exact he); rw [h] at h1; exact h1
theorem qkf {out R : List Nat} {bs : List Bk} {er : Nat} (h : zu bs = (R, er)) (he : er = 0) (h2 : 524288 < out.length + R.length) : zg out bs = (out, 3) := qlo (by rw [h]; exact he) (by rw [h]; exact h2)
theorem qnm {out R : List Nat} {bs : List Bk} {er : Nat} (h : zu bs = (R, er)) (he : er = 0) (h2 : ¬ 524288 < out.length + R.length) : zg out bs = (out ++ R, 0) := by have h1 := qqh (out := out) (bs := bs) (by rw [h]; exact he) (by rw [h]; exact h2); rw [h] at h1; exact h1
theorem qit {W w' : World} {tw : TypeId} {g c : Nat} {lim n : Int} {A : Option Addr} {out : List Nat} {er : Nat} {fs : List Fact} {p : List Nat × Nat} (h : p = (out, er)) (hn : n = er) (hc : out.length ≤ c) (hm : Mem W w' (.blk g #[.int .i64 lim, .slice A out.length c] tw :: .row (.slice A out.length c) out.length (out.map B8) 5 1 :: fs)) : WrIs W tw g lim p.1 fs (.int .i64 (p.2 : Int)) (.returned (.int .i64 n)) w' := by
 subst h; subst hn
 exact ⟨rfl, A, c, hc, hm⟩
theorem qiu {W w' : World} {tw : TypeId} {g c k : Nat} {lim n m : Int} {A : Option Addr} {out : List Nat} {er : Nat} {fs : List Fact} {p : List Nat × Nat × Nat} (h : p = (out, k, er)) (hm' : m = k) (hn : n = er) (hc : out.length ≤ c) (hm : Mem W w' (.blk g #[.int .i64 lim, .slice A out.length c] tw :: .row (.slice A out.length c) out.length (out.map B8) 5 1 :: fs)) : WrIs W tw g lim p.1 fs (.tuple #[.int .i64 (p.2.1 : Int), .int .i64 (p.2.2 : Int)]) (.returned (.tuple #[.int .i64 m, .int .i64 n])) w' := by
 subst h; subst hn; subst hm'
 exact ⟨rfl, A, c, hc, hm⟩
section
variable {W w w' : World} {fs gs : List Fact} {f1 f2 : Fact}
theorem Mem.drop2 (h : Mem W w (f1 :: f2 :: (gs ++ fs))) : Mem W w (f1 :: f2 :: fs) := h.subl (List.Sublist.cons_cons _ (List.Sublist.cons_cons _ (List.sublist_append_right gs fs)))
theorem Mem.qwn (h : Mem W w []) (k : Mem w w' gs) : Mem W w' gs := by have h1 := h.join k; rwa [List.append_nil] at h1
end
theorem qkg {out : List Nat} {lim : Int} {cpu : Nat} {l : List It} {opn : Int} {bs : List Bk} {e : Nat} (h : cutS cpu l opn lim = (bs, e)) (he : e ≠ 0) : putW out lim cpu l opn = (out, 0, e) := by have h1 := qsk (out := out) (lim := lim) (cpu := cpu) (l := l) (opn := opn) (by rw [h]; exact he); rw [h] at h1; exact h1
theorem qqi {out o2 : List Nat} {lim : Int} {cpu : Nat} {l : List It} {opn : Int} {bs : List Bk} {e we : Nat} (h : cutS cpu l opn lim = (bs, e)) (he : e = 0) (h2 : zg out bs = (o2, we)) (hw : we ≠ 0) : putW out lim cpu l opn = (o2, 0, we) := by
 have h1 := qsl (out := out) (lim := lim) (cpu := cpu) (l := l) (opn := opn) (by rw [h]; exact he) (by rw [h, h2]; exact hw)
 have h3 := qke (out := out) (bs := bs) (by rw [h2]; exact hw)
 rw [h2] at h3
 rw [h, h2] at h1
 rw [h1]
 exact congrArg (·, 0, we) h3.symm
theorem qsm {out o2 : List Nat} {lim : Int} {cpu : Nat} {l : List It} {opn : Int} {bs : List Bk} {e we : Nat} (h : cutS cpu l opn lim = (bs, e)) (he : e = 0) (h2 : zg out bs = (o2, we)) (hw : we = 0) : putW out lim cpu l opn = (o2, bs.length, 0) := by
 have h1 := qun (out := out) (lim := lim) (cpu := cpu) (l := l) (opn := opn) (by rw [h]; exact he) (by rw [h, h2]; exact hw)
 rw [h, h2] at h1
 exact h1
theorem qnn {l : List Nat} {b : Bk} {m er : Nat} (hl : ∀ x ∈ l, x < 256) (h : readB l = (b, m, er)) : m ≤ l.length := by
 by_cases he : er = 0
 ·subst he; exact (qim hl h).len
 ·have := (qpv h he).2; omega
theorem qqj {l : List Nat} {p : Nat} {b : Bk} {m er : Nat} (hl : ∀ x ∈ l, x < 256) (hp : p ≤ l.length) (h : nextR l p = (b, m, er)) : p + m ≤ l.length := by
 unfold nextR at h
 split at h
 ·injection h with _ h; injection h with h _; omega
 ·have := qnn (qa1 hl p) h
  rw [List.length_drop] at this
  omega
def qtj (W : World) (tr : TypeId) (g p : Nat) (l : List Nat) (A : Option Addr) (c : Nat) (fs : List Fact) (q : Bk × Nat × Nat) (r : Ending) (w' : World) : Prop :=
 ∃ A' c', r = .returned (.tuple #[.agg (q.1.cells A' c'), .int .i64 (q.2.2 : Int)]) ∧ q.1.evs.length ≤ c' ∧ Mem W w' (.row (.slice A' q.1.evs.length c') q.1.evs.length (q.1.evs.flatMap evL) 45 11 :: .blk g #[.bool true, .int .i64 ((p + q.2.1 : Nat) : Int), .slice A l.length c] tr :: .row (.slice A l.length c) l.length (l.map B8) 5 1 :: fs)
theorem qkh {W w' : World} {tr : TypeId} {g p c c' m er : Nat} {l : List Nat} {A A' : Option Addr} {fs : List Fact} {q : Bk × Nat × Nat} {b : Bk} (h : q = (b, m, er)) {n : Int} (hn : n = er) (hc : b.evs.length ≤ c') (hm : Mem W w' (.row (.slice A' b.evs.length c') b.evs.length (b.evs.flatMap evL) 45 11 :: .blk g #[.bool true, .int .i64 ((p + m : Nat) : Int), .slice A l.length c] tr :: .row (.slice A l.length c) l.length (l.map B8) 5 1 :: fs)) :
  qtj W tr g p l A c fs q (.returned (.tuple #[.agg (b.cells A' c'), .int .i64 n])) w' := by
 subst h; subst hn
 exact ⟨A', c', rfl, hc, hm⟩
theorem Rd.qvc {w : World} {B : Nat} {l : List Nat} (h : Rd w B 1 none l.length (l.map B8)) : l = [] := by
 rcases Nat.eq_zero_or_pos l.length with h0 | h0
 ·exact List.length_eq_zero_iff.1 h0
 ·obtain ⟨a, ha, _⟩ := h.row h0
  cases ha
theorem LaidX.mem2 {B : Nat} {W w w' : World} {fs gs : List Fact} (h : LaidX B w) (HW : Mem W w fs) (HM : Mem W w' gs) (hB : B ≤ W.heap.size) : LaidX B w' := h.qae fun p hp => by
 rw [HM.below.cell (by omega), HW.below.cell (by omega)]
theorem Mem.qwo {W w : World} {a b : List Fact} {t : TypeId} {q : List Hb} (h : Mem W w (a ++ (hbF t q ++ b))) : HbRd w q := h.hbRd fun _ hf => List.mem_append_right _ (List.mem_append_left _ hf)
theorem qhz {cpu lim : Nat} {opn : Int} (hl : 0 < lim) : ∀ (f : Nat) (l : List It), GoodI cpu l opn → (∀ b ∈ cutGo cpu opn lim f l, b.Ok ∧ b.evs.length ≤ l.length) ∧ (cutGo cpu opn lim f l).length ≤ l.length
 | 0, l, _ => ⟨fun b hb => (by cases hb), Nat.zero_le _⟩
 | f + 1, l, h => by
  rcases Nat.eq_zero_or_pos l.length with h0 | h0
  ·rw [qj4 h0]; exact ⟨fun b hb => (by cases hb), Nat.zero_le _⟩
  ·rw [qhr h0 (by omega)]
   obtain ⟨h1, h2, _⟩ := qmg h hl h0
   obtain ⟨i1, i2⟩ := qhz hl f _ (h.drop (cutN cpu l opn lim))
   rw [List.length_drop] at i2
   refine ⟨fun b hb => ?_, ?_⟩
   ·rcases List.mem_cons.1 hb with rfl | hb
    ·exact ⟨qth h _, by rw [qdd h2]; exact h2⟩
    ·have h3 := i1 b hb
     rw [List.length_drop] at h3
     exact ⟨h3.1, by omega⟩
   ·rw [List.length_cons, Nat.add_sub_cancel]; omega
theorem qqk {cpu : Nat} {l : List It} {opn lim : Int} {bs : List Bk} {ce : Nat} (hcpu : cpu < 256) (hok : ∀ x ∈ l, x.Ok) (ho : I64 opn) (h : cutS cpu l opn lim = (bs, ce)) : (∀ b ∈ bs, b.Ok) ∧ (∀ b ∈ bs, b.evs.length ≤ l.length) ∧ bs.length ≤ l.length + 1 := by
 have nil : (∀ b ∈ ([] : List Bk), b.Ok) ∧ (∀ b ∈ ([] : List Bk), b.evs.length ≤ l.length) ∧ ([] : List Bk).length ≤ l.length + 1 := ⟨fun b hb => (by cases hb), fun b hb => (by cases hb), Nat.zero_le _⟩
 unfold cutS at h
 split at h
 ·injection h with h _; subst h; exact nil
 ·rename_i h1
  split at h
  ·injection h with h _; subst h; exact nil
  ·rename_i h2
   split at h
   ·injection h with h _
    subst h
    split
    ·exact nil
    ·refine ⟨fun b hb => ?_, fun b hb => ?_, by simp⟩
     ·rw [List.mem_singleton] at hb; subst hb
      exact ⟨by show 1 < 256; decide, hcpu, ho, by show I64 0; unfold I64; decide, fun e he => by cases he⟩
     ·rw [List.mem_singleton] at hb; subst hb; exact Nat.zero_le _
   ·injection h with h _
    subst h
    have hG := GoodI.of (by omega) hok (show zr cpu l opn = true by simpa using h2)
    obtain ⟨i1, i2⟩ := qhz (cpu := cpu) (lim := lim.toNat) (opn := opn) (by omega) l.length l hG
    exact ⟨fun b hb => (i1 b hb).1, fun b hb => (i1 b hb).2, by omega⟩
def pick9 : Ev := { Ev.zero with seq := 9, time := 340, cpu := 2, kind := 6 }
def exI : List It := [⟨tickE, 3⟩, ⟨pick9, 0⟩]
theorem qu6 : pick9.Ok := ⟨⟨by decide, by decide⟩, ⟨by decide, by decide⟩, by decide, by decide, ⟨by decide, by decide⟩, ⟨by decide, by decide⟩, ⟨by decide, by decide⟩, ⟨by decide, by decide⟩, ⟨by decide, by decide⟩, by decide, ⟨by decide, by decide⟩⟩
theorem qtl : ∀ x ∈ exI, x.Ok := by
 intro x hx
 simp only [exI, List.mem_cons, List.not_mem_nil, or_false] at hx
 rcases hx with rfl | rfl
 ·exact ⟨qv0, by show I64 3; unfold I64; decide⟩
 ·exact ⟨qu6, by show I64 0; unfold I64; decide⟩
theorem sa1 : cutS 2 exI 2 1 = ([⟨1, 2, 3, 0, [tickE]⟩, ⟨1, 2, 2, 0, [pick9]⟩], 0) := by decide +kernel
theorem sa2 : cutS 2 exI 2 2 = ([⟨1, 2, 5, 0, [tickE, pick9]⟩], 0) := by decide +kernel
theorem sa3 : cutS 2 [] 0 1 = ([], 0) := by decide +kernel
theorem sa4 : cutS 2 [] 2 1 = ([⟨1, 2, 2, 0, []⟩], 0) := by decide +kernel
theorem sa5 : zg [] [endB 0] = ([], 107) := by decide +kernel
theorem sa6 : zg [] [endB 7] = (awX, 0) := by decide +kernel
theorem sa7 : qfm (awX ++ [1]) = ([⟨2, 0, 0, 7, []⟩], 13, 100) := by decide +kernel
theorem sa8 : nextR awX 0 = (⟨2, 0, 0, 7, []⟩, 13, 0) := by decide +kernel
theorem sa9 : nextR awX 13 = (Bk.zero, 0, 6) := by decide +kernel
theorem qu7 : ∀ b ∈ awX ++ [1], b < 256 := by decide
theorem map1 {q : List Hb} {b : Bk} (h : q.map Hb.b = [b]) : ∃ x, q = [x] ∧ x.b = b := by
 cases q with
 | nil => cases h
 | cons x r =>
  cases r with
  | nil => injection h with h _; exact ⟨x, rfl, h⟩
  | cons y r => injection h with _ h; cases h
theorem map2 {q : List Hb} {b d : Bk} (h : q.map Hb.b = [b, d]) : ∃ x y, q = [x, y] ∧ x.b = b ∧ y.b = d := by
 cases q with
 | nil => cases h
 | cons x r =>
  injection h with h1 h2
  obtain ⟨y, rfl, h3⟩ := map1 h2
  exact ⟨x, y, rfl, h1, h3⟩
structure Ss where
 cpu : Nat
 b : Bs
 l : List Sm
 bef : List Nat
 opn : Nat
structure Ss.Ok (x : Ss) : Prop where
 cpu : x.cpu < 256
 b : x.b.Ok
 l : ∀ y ∈ x.l, y.Ok
 bef : ∀ y ∈ x.bef, y < 4294967296
 opn : x.opn < 4294967296
def Ss.cells (x : Ss) (A : Option Addr) (c : Nat) (A2 : Option Addr) (c2 : Nat) : Array Value := #[.int .u8 (x.cpu : Int), .int .i64 x.b.seq, .int .i64 x.b.time, .slice A x.l.length c, .slice A2 x.bef.length c2, .int .u32 (x.opn : Int)]
def W32 (y : Nat) : Value := .int .u32 (y : Int)
theorem si_ss : SI Tryd.prog 31 6 := ⟨by kernel_rfl, by kernel_rfl⟩
def befAt (bef : List Nat) (i : Nat) : Nat := if bef.length = 0 then 0 else bef.getD (i % bef.length) 0
def qby (bef : List Nat) (es : List Ev) (n : Nat) : List It := (List.range n).map fun i => ⟨es.getD i Ev.zero, (befAt bef i : Int)⟩
def Ss.es (x : Ss) : List Ev := madeL x.cpu x.b x.l
def Ss.items (x : Ss) : List It := qby x.bef x.es x.es.length
def qtk (w : World) (x : Ss) (r : Ending) (w' : World) : Prop := ∃ A c, r = .returned (.tuple #[.int .u8 ((x.cpu % 64 : Nat) : Int), .slice A x.items.length c, .int .i64 (x.opn : Int)]) ∧ w'.ownsRow w.heap.size 47 12 (.slice A x.items.length c) x.items.length (x.items.flatMap itL) ∧ x.items.length ≤ c ∧ Below w.heap.size w w'
theorem qgq (bef : List Nat) (es : List Ev) (n : Nat) : qby bef es (n + 1) = qby bef es n ++ [⟨es.getD n Ev.zero, (befAt bef n : Int)⟩] := by
 unfold qby
 rw [List.range_succ, List.map_append]
 rfl
theorem qno (bef : List Nat) (es : List Ev) (n : Nat) : (qby bef es n).length = n := by unfold qby; simp
theorem qql (x : Ss) : evsI x.items = x.es := by
 unfold evsI Ss.items qby
 rw [List.map_map]
 refine List.ext_getElem? fun i => ?_
 rw [List.getElem?_map]
 by_cases h : i < x.es.length
 ·rw [List.getElem?_range h]
  show some (x.es.getD i Ev.zero) = _
  rw [List.getD_eq_getElem?_getD, List.getElem?_eq_getElem h]; rfl
 ·rw [List.getElem?_eq_none (by simp; omega), List.getElem?_eq_none (by omega)]; rfl
theorem qsn {bef : List Nat} (h : ∀ y ∈ bef, y < 4294967296) (i : Nat) : befAt bef i < 4294967296 := by
 unfold befAt
 split
 ·decide
 ·rw [List.getD_eq_getElem?_getD, List.getElem?_eq_getElem (Nat.mod_lt _ (by omega))]
  exact h _ (List.getElem_mem _)
theorem qqm {x : Ss} (h : x.Ok) : ∀ y ∈ x.items, 0 ≤ y.before ∧ y.before < 4294967296 := by
 intro y hy
 unfold Ss.items qby at hy
 obtain ⟨i, _, rfl⟩ := List.mem_map.1 hy
 have := qsn h.bef i
 show 0 ≤ ((befAt x.bef i : Nat) : Int) ∧ ((befAt x.bef i : Nat) : Int) < 4294967296
 omega
theorem qml (cpu : Nat) : ∀ (l : List Sm) (b : Bs), (qbx cpu b l).length = l.length
 | [], _ => rfl
 | x :: r, b => by rw [qbx, List.length_cons, List.length_cons, qml cpu r]
theorem es200 (x : Ss) : x.es.length ≤ 200 := by
 unfold Ss.es madeL
 rw [qml, List.length_take]
 omega
theorem qgr : ∀ (es : List Ev) (cpu : Nat) (p : Option Ev) (b : Bs), Chain cpu p b es → ∀ e ∈ es, e.Ok ∧ e.cpu = cpu
 | [], _, _, _, _, e, he => by cases he
 | x :: r, cpu, p, b, h, e, he => by
  obtain ⟨h1, h2, h3, h4⟩ := h
  rcases List.mem_cons.1 he with rfl | he
  ·exact ⟨h1.ok, h2⟩
  ·exact qgr r cpu _ _ h4 e he
theorem es_ok {x : Ss} (h : x.Ok) : ∀ e ∈ x.es, e.Ok ∧ e.cpu = x.cpu % 64 := qgr _ _ _ _ (qlq h.cpu x.b h.l)
theorem qgs (x : Ss) : x.items.length = x.es.length := qno _ _ _
theorem qso {x : Ss} (h : x.Ok) : ∀ y ∈ x.items, y.Ok := by
 intro y hy
 have hb := qqm h y hy
 have he : y.e ∈ evsI x.items := List.mem_map_of_mem hy
 rw [qql] at he
 exact ⟨(es_ok h _ he).1, by unfold I64; omega⟩
end Go.Proofs.YtfeheccoijnbaaaDoor
namespace Go.Proofs.YtfeheccoijnbaaaDoor
open Go.RowKit Go.ChangeShapes Go.WideShapes Go.ChangeAt
def qlr : List Go.IntKind := [.u8, .u8, .u32, .u32, .u32, .u32, .u32, .u32, .u32, .u32, .u64]
theorem qqs : qd9 Tryd.prog 124 qlr = true := by kernel_rfl
theorem qnt : Tryd.prog.underlying 27 = some (.slice 124) := by kernel_rfl
theorem qqt {cs : List Value} (hl : cs.length = qlr.length) (h : ∀ (i : Nat) (k : Go.IntKind), qlr[i]? = some k → ∃ z : Int, cs[i]? = some (Value.int k z) ∧ (Lit.int k z).wf = true) : ∃ x : Sm, smL x = cs ∧ x.Ok := by
 obtain ⟨z0, h0, w0⟩ := h 0 .u8 rfl
 have w0 := u8_wf w0
 obtain ⟨z1, h1, w1⟩ := h 1 .u8 rfl
 have w1 := u8_wf w1
 obtain ⟨z2, h2, w2⟩ := h 2 .u32 rfl
 have w2 := qea w2
 obtain ⟨z3, h3, w3⟩ := h 3 .u32 rfl
 have w3 := qea w3
 obtain ⟨z4, h4, w4⟩ := h 4 .u32 rfl
 have w4 := qea w4
 obtain ⟨z5, h5, w5⟩ := h 5 .u32 rfl
 have w5 := qea w5
 obtain ⟨z6, h6, w6⟩ := h 6 .u32 rfl
 have w6 := qea w6
 obtain ⟨z7, h7, w7⟩ := h 7 .u32 rfl
 have w7 := qea w7
 obtain ⟨z8, h8, w8⟩ := h 8 .u32 rfl
 have w8 := qea w8
 obtain ⟨z9, h9, w9⟩ := h 9 .u32 rfl
 have w9 := qea w9
 obtain ⟨z10, h10, w10⟩ := h 10 .u64 rfl
 have w10 := qvq w10
 refine ⟨⟨z0.toNat, z1.toNat, z2.toNat, z3.toNat, z4.toNat, z5.toNat, z6.toNat, z7.toNat, z8.toNat, z9.toNat, z10.toNat⟩, ?_, ⟨by show z0.toNat < _; omega, by show z1.toNat < _; omega, by show z2.toNat < _; omega, by show z3.toNat < _; omega, by show z4.toNat < _; omega, by show z5.toNat < _; omega, by show z6.toNat < _; omega, by show z7.toNat < _; omega, by show z8.toNat < _; omega, by show z9.toNat < _; omega, by show z10.toNat < _; omega⟩⟩
 refine qoz (by rw [hl]; rfl) fun i hi => ?_
 have hi' : i < 11 := by rw [hl] at hi; exact hi
 have hc : i = 0 ∨ i = 1 ∨ i = 2 ∨ i = 3 ∨ i = 4 ∨ i = 5 ∨ i = 6 ∨ i = 7 ∨ i = 8 ∨ i = 9 ∨ i = 10 := by omega
 rcases hc with rfl | rfl | rfl | rfl | rfl | rfl | rfl | rfl | rfl | rfl | rfl
 ·rw [h0]; show some (Value.int .u8 ((z0.toNat : Nat) : Int)) = _; rw [Int.toNat_of_nonneg w0.1]
 ·rw [h1]; show some (Value.int .u8 ((z1.toNat : Nat) : Int)) = _; rw [Int.toNat_of_nonneg w1.1]
 ·rw [h2]; show some (Value.int .u32 ((z2.toNat : Nat) : Int)) = _; rw [Int.toNat_of_nonneg w2.1]
 ·rw [h3]; show some (Value.int .u32 ((z3.toNat : Nat) : Int)) = _; rw [Int.toNat_of_nonneg w3.1]
 ·rw [h4]; show some (Value.int .u32 ((z4.toNat : Nat) : Int)) = _; rw [Int.toNat_of_nonneg w4.1]
 ·rw [h5]; show some (Value.int .u32 ((z5.toNat : Nat) : Int)) = _; rw [Int.toNat_of_nonneg w5.1]
 ·rw [h6]; show some (Value.int .u32 ((z6.toNat : Nat) : Int)) = _; rw [Int.toNat_of_nonneg w6.1]
 ·rw [h7]; show some (Value.int .u32 ((z7.toNat : Nat) : Int)) = _; rw [Int.toNat_of_nonneg w7.1]
 ·rw [h8]; show some (Value.int .u32 ((z8.toNat : Nat) : Int)) = _; rw [Int.toNat_of_nonneg w8.1]
 ·rw [h9]; show some (Value.int .u32 ((z9.toNat : Nat) : Int)) = _; rw [Int.toNat_of_nonneg w9.1]
 ·rw [h10]; show some (Value.int .u64 ((z10.toNat : Nat) : Int)) = _; rw [Int.toNat_of_nonneg w10.1]
section
variable {H : Type} {enc : TypeId × Value → H} {W : World} {b0 : Nat} {v : Value} {d : DataW H} {p : List MemPlace}
theorem qss : Tryd.prog.cellsOf 124 = 11 := by kernel_rfl
theorem qu1 {fuel : Nat} {cs : List Value} {x : DataW H × List MemPlace} (hf : DataW.trod enc Tryd.prog W 0 (fun _ => true) true fuel 124 cs = some x) : ∃ e : Sm, smL e = cs ∧ e.Ok := by
 obtain ⟨h1, h2⟩ := qf3 qqs hf
 exact qqt h1 h2
theorem qst {fuel : Nat} {cs : List Value} {x : DataW H × List MemPlace} (hf : DataW.trod enc Tryd.prog W 0 (fun _ => true) true fuel 27 cs = some x) :
  ∃ (A : Option Addr) (c : Nat) (l : List Sm), cs = [.slice A l.length c] ∧ l.length ≤ c ∧ c ≤ maxLen ∧ (∀ x ∈ l, x.Ok) ∧ Rd W W.heap.size 11 A l.length (l.flatMap smL) :=
 qhv smL Sm.Ok qnt qss (by decide) qiv (fun _ _ _ h => qu1 h) hf
theorem qsu : Tryd.prog.underlying 28 = some (.slice 29) := by kernel_rfl
theorem qkk : Tryd.prog.cellsOf 29 = 1 := by kernel_rfl
theorem qnu : Tryd.prog.cellsOf 28 = 1 := by kernel_rfl
theorem qqu : Tryd.prog.cellsOf 27 = 1 := by kernel_rfl
theorem qmn {fuel : Nat} {cs : List Value} {x : DataW H × List MemPlace} (hf : DataW.trod enc Tryd.prog W 0 (fun _ => true) true fuel 29 cs = some x) : ∃ e : Nat, [W32 e] = cs ∧ e < 4294967296 := by
 obtain ⟨z, e1, _, w1⟩ := DataW.trod_int qpj hf
 have := qea w1
 exact ⟨z.toNat, by rw [e1]; show [Value.int .u32 ((z.toNat : Nat) : Int)] = _; rw [Int.toNat_of_nonneg this.1], by omega⟩
theorem qmo : ∀ l : List Nat, l.flatMap (fun e => [W32 e]) = l.map W32
 | [] => rfl
 | a :: r => by rw [List.flatMap_cons, List.map_cons, qmo r]; rfl
theorem qqv {fuel : Nat} {cs : List Value} {x : DataW H × List MemPlace} (hf : DataW.trod enc Tryd.prog W 0 (fun _ => true) true fuel 28 cs = some x) :
  ∃ (A : Option Addr) (c : Nat) (l : List Nat), cs = [.slice A l.length c] ∧ l.length ≤ c ∧ c ≤ maxLen ∧ (∀ x ∈ l, x < 4294967296) ∧ Rd W W.heap.size 1 A l.length (l.map W32) := by
 obtain ⟨A, c, l, h1, h2, h3, h4, h5⟩ := qhv (fun e : Nat => [W32 e]) (· < 4294967296) qsu qkk (by decide) (fun _ => rfl) (fun _ _ _ h => qmn h) hf
 refine ⟨A, c, l, h1, h2, h3, h4, ?_⟩
 rwa [qmo l] at h5
theorem ss_f0 : fieldAt Tryd.prog 31 0 0 5 = true := by kernel_rfl
theorem ss_f1 : fieldAt Tryd.prog 31 1 1 26 = true := by kernel_rfl
theorem ss_f2 : fieldAt Tryd.prog 31 2 3 27 = true := by kernel_rfl
theorem ss_f3 : fieldAt Tryd.prog 31 3 4 28 = true := by kernel_rfl
theorem ss_f4 : fieldAt Tryd.prog 31 4 5 29 = true := by kernel_rfl
theorem qsv : Tryd.prog.cellsOf 31 = 6 := by kernel_rfl
theorem qu2 {cs : List Value} {a b c d e f : Value} (hl : cs.length = 6) (h0 : cs[0]? = some a) (h1 : cs[1]? = some b) (h2 : cs[2]? = some c) (h3 : cs[3]? = some d) (h4 : cs[4]? = some e) (h5 : cs[5]? = some f) : cs = [a, b, c, d, e, f] := by
 refine qoz hl fun i hi => ?_
 have hi' : i < 6 := hi
 have hc : i = 0 ∨ i = 1 ∨ i = 2 ∨ i = 3 ∨ i = 4 ∨ i = 5 := by omega
 rcases hc with rfl | rfl | rfl | rfl | rfl | rfl <;> assumption
structure SsIn (W : World) (x : Ss) (A : Option Addr) (c : Nat) (A2 : Option Addr) (c2 : Nat) : Prop where
 ok : x.Ok
 hc : x.l.length ≤ c
 hm : c ≤ maxLen
 hc2 : x.bef.length ≤ c2
 hm2 : c2 ≤ maxLen
 rd : Rd W W.heap.size 11 A x.l.length (x.l.flatMap smL)
 rd2 : Rd W W.heap.size 1 A2 x.bef.length (x.bef.map W32)
theorem qu3 {fuel : Nat} {cs : List Value} {y : DataW H × List MemPlace} (hf : DataW.trod enc Tryd.prog W 0 (fun _ => true) true fuel 31 cs = some y) :
  ∃ (x : Ss) (A : Option Addr) (c : Nat) (A2 : Option Addr) (c2 : Nat), (x.cells A c A2 c2).toList = cs ∧ SsIn W x A c A2 c2 := by
 obtain ⟨hl, _, y0, g0⟩ := qbf ss_f0 hf
 obtain ⟨_, _, y1, g1⟩ := qbf ss_f1 hf
 obtain ⟨_, _, y2, g2⟩ := qbf ss_f2 hf
 obtain ⟨_, _, y3, g3⟩ := qbf ss_f3 hf
 obtain ⟨_, _, y4, g4⟩ := qbf ss_f4 hf
 rw [qsv] at hl
 obtain ⟨cpu, e0, _, w0⟩ := DataW.trod_int qox g0
 obtain ⟨_, h1⟩ := qf3 qo0 g1
 obtain ⟨s, hs0, ws⟩ := h1 0 .i64 rfl
 obtain ⟨t, ht0, wt⟩ := h1 1 .i64 rfl
 obtain ⟨A, c, l, e2, k1, k2, k3, k4⟩ := qst g2
 obtain ⟨A2, c2, bef, e3, m1, m2, m3, m4⟩ := qqv g3
 obtain ⟨o, e4, w4⟩ := qmn g4
 rw [qrq] at e0
 rw [qqu] at e2
 rw [qnu] at e3
 rw [qkk] at e4
 have a0 := qcl e0
 have a3 := qcl e2
 have a4 := qcl e3
 have a5 := qcl e4.symm
 rw [qm1, List.getElem?_take, List.getElem?_drop] at hs0 ht0
 simp only [Nat.reduceLT, if_true] at hs0 ht0
 have u0 := u8_wf w0
 refine ⟨⟨cpu.toNat, ⟨s, t⟩, l, bef, o⟩, A, c, A2, c2, ?_, ⟨⟨by show cpu.toNat < 256; omega, ⟨qoy ws, qoy wt⟩, k3, m3, w4⟩, k1, k2, m1, m2, k4, m4⟩⟩
 refine ((qu2 hl a0 hs0 ht0 a3 a4 a5).trans ?_).symm
 show _ = [Value.int .u8 ((cpu.toNat : Nat) : Int), .int .i64 s, .int .i64 t, .slice A l.length c, .slice A2 bef.length c2, .int .u32 (o : Int)]
 rw [Int.toNat_of_nonneg u0.1]
 rfl
set_option maxRecDepth 100000 in
theorem qv6 (hval : Value.okWide Tryd.prog W .any b0 31 v) (h : DataW.Trod enc Tryd.prog W 0 (fun _ => true) true 31 v d p) :
  ∃ (x : Ss) (A : Option Addr) (c : Nat) (A2 : Option Addr) (c2 : Nat), v = .agg (x.cells A c A2 c2) ∧ SsIn W x A c A2 c2 := by
 obtain ⟨fs, hu⟩ := qjh (show qf4 Tryd.prog 31 = true by kernel_rfl)
 obtain ⟨cs, rfl, hs⟩ := okWide_struct hu hval
 obtain ⟨fuel, hf⟩ := h
 obtain ⟨x, A, c, A2, c2, e, hx⟩ := qu3 (cs := cs.toList) hf
 exact ⟨x, A, c, A2, c2, by rw [Array.toList_inj.1 e], hx⟩
end
end Go.Proofs.YtfeheccoijnbaaaDoor
namespace Go.Proofs.YtfeheccoijnbaaaDoor
open Go.RowKit
def pickI (cpu : Nat) : It := ⟨pickE cpu, 0⟩
def w5 : List Nat := (endB 5).out
theorem qtm : w5.length = 13 := by decide +kernel
theorem w5_is : zg [] [endB 5] = (w5, 0) := by decide +kernel
theorem qq3 {z : Int} (hz : z < 1) (out : List Nat) : zg out [endB z] = (out, 107) := by
 have h1 : (endB z).err = 107 := qu9 (qu8 rfl (by show ¬ (1 ≤ z ∧ _); omega))
 have h2 : errL [endB z] = 107 := by unfold errL; rw [if_neg (by omega), h1]
 exact qgo (qhx (by omega)) (by omega) |>.trans (by rw [h2])
theorem qdo {cpu : Nat} (h : cpu < 256) : (pickI cpu).Ok := ⟨qix h, by show I64 0; unfold I64; decide⟩
theorem qb3 {l : List It} {x : It} (h : ∀ y ∈ l, y.Ok) (hx : x.Ok) : ∀ y ∈ l ++ [x], y.Ok := fun y hy => by
 rcases List.mem_append.1 hy with hy | hy
 ·exact h y hy
 ·rw [List.mem_singleton] at hy; subst hy; exact hx
theorem qdp {cpu : Nat} {L : List It} {opn : Int} (hcpu : cpu < 64) (hok : ∀ x ∈ L, x.Ok) (h : GoodI cpu L opn → False) : cutS cpu L opn 50 = ([], 110) :=
 qhs (by omega) (by cases h2 : zr cpu L opn with
  | false => rfl
  | true => exact (h (GoodI.of hcpu hok h2)).elim)
theorem qq4 {cpu : Nat} {L : List It} {opn : Int} (ho : opn < 0) (h : GoodI cpu L opn) : False := by have := h.o0; omega
theorem qn2 {cpu : Nat} {L : List It} {opn : Int} (ho : 281474976710656 < opn) (h : GoodI cpu L opn) : False := by
 have h1 := qau h.bef
 have h2 := h.sum
 omega
theorem qq5 {cpu : Nat} {l : List It} {x : It} {opn : Int} (hx : x.before < 0) (h : GoodI cpu (l ++ [x]) opn) : False := by
 have := h.bef x (by simp)
 omega
theorem qq6 {cpu : Nat} {l : List It} {x : It} {opn : Int} (hx : 281474976710656 < x.before) (h : GoodI cpu (l ++ [x]) opn) : False := by
 have h1 := qau (l := l) (fun y hy => h.bef y (by simp [hy]))
 have h2 := h.sum
 have h3 := h.o0
 have h4 : sumI (befI (l ++ [x])) = sumI (befI l) + x.before := by unfold befI; rw [List.map_append, qfr]; simp [sumI]
 omega
theorem qq7 {cpu : Nat} {l : List It} {x : It} {opn : Int} (hx : x.e.cpu ≠ cpu) (h : GoodI cpu (l ++ [x]) opn) : False := by
 obtain ⟨b, hb⟩ := h.chain
 exact hx (qgr _ _ _ _ hb x.e (by unfold evsI; simp)).2
theorem qq8 {cpu : Nat} {l : List It} {x : It} {opn : Int} (h : GoodI cpu (l ++ [x, x]) opn) : False := by
 obtain ⟨b, hb⟩ := h.chain
 obtain ⟨b2, h2⟩ := qgj _ _ _ l.length hb
 have e : (evsI (l ++ [x, x])).drop l.length = [x.e, x.e] := by
  rw [← qj3, List.drop_left]; rfl
 rw [e] at h2
 have := h2.2.2.2.2.2.1 x.e rfl
 omega
theorem qiy (l : List It) (x y : It) {off : Nat} (ho : off < 12) (v : Value) (h : itL y = (itL x).set off v) : putAt ((l ++ [x]).flatMap itL) (l.length * 12 + off) [v] = (l ++ [y]).flatMap itL := by
 have h1 := qm3 itL 12 qa2 (l ++ [x]) l.length x y (by simp) off ho v h
 rw [h1]
 congr 1
 rw [List.set_append, if_neg (by omega), Nat.sub_self]
 rfl
theorem qlt (A : Option Addr) (c : Nat) (q : List Hb) (B : Nat) (w : World) (hL : LaidX B w) (hB : B ≤ w.heap.size) (hr : Rd w w.heap.size 5 A q.length (q.flatMap hbL)) (hQ : HbRd w q) (hok : ∀ h ∈ q, h.b.Ok) (hev : ∀ h ∈ q, h.b.evs.length ≤ 1000000) (hn : q.length ≤ 1000000) :
    Calls Tryd.prog 20 #[.slice A q.length c] w (qaz w (zu (q.map Hb.b)).2 (zu (q.map Hb.b)).1) := by
 refine qg (vs := [.slice A q.length c]) Tryd.func20 rfl rfl (by kernel_rfl) (σ0 := [(0, .slice A q.length c)]) rfl ?_
 intro a HF
 have HM := Mem.start w
 refine wp_seq (qa ?_)
 refine fp HF 2 0 [(3, vI 0), (2, .slice none 0 0)] fun a HF => ?_
 refine qb rfl (wp_seq (qa ?_))
 refine fp HF 1 0 [(4, .slice none 0 0)] fun a HF => ?_
 refine qb rfl (wp_seq (qa ?_))
 refine fp HF 1 0 [(5, .bool false)] fun a HF => ?_
 refine qb rfl ?_
 replace HM := HM.nil 5 1
 refine wp_seq (wp_seq (qa ?_))
 refine fp HF 1 0 [(10, .slice A q.length c)] fun a HF => ?_
 refine fy HF HM 1 rfl rfl rfl (Yl.len rfl rfl (by kernel_rfl)) fun a HF => ?_
 refine fp HF 1 2 [(12, vI 0)] fun a HF => ?_
 refine qb rfl (wp_block ?_)
 refine zy (fun mS aS wS => ∃ (k : Nat) (lg : Bool) (R : List Nat) (Ao : Option Addr) (co : Nat), (k ≤ q.length) ∧ (errL (q.map Hb.b) = errL ((q.drop k).map Hb.b)) ∧ (lg = decide (524288 < (outsL ((q.take k).map Hb.b)).length)) ∧ (lg = false → R = outsL ((q.take k).map Hb.b)) ∧ (R.length ≤ 524288) ∧ (R.length ≤ co) ∧ mS = q.length - k ∧ Fr aS 41 [] [(12, vI k), (11, vI q.length), (10, .slice A q.length c), (5, .bool lg), (4, .slice Ao R.length co), (3, vI 0), (2, .slice none 0 0)] ∧ Mem w wS [.row (.slice Ao R.length co) R.length (R.map B8) 5 1]) (m := q.length - 0) ⟨0, false, [], none, 0, Nat.zero_le _, by rw [List.drop_zero], rfl, by intro _; rfl, by simp, Nat.le_refl _, rfl, HF.sub (by kernel_rfl), HM.picks [0] (by decide) rfl⟩ ?_
 clear HF HM; rintro mS a w_ ⟨k, lg, R, Ao, co, hk, her, hlg, hR, hRl, hco, rfl, HF, HM⟩
 refine wp_seq (qa ?_)
 refine fp HF 1 0 [(13, .bool (decide ((k : Int) < (q.length : Int))))] fun a HF => ?_
 refine qb rfl (wp_seq ?_)
 rcases HF.tf 13 rfl with ⟨hb13, HF⟩ | ⟨hb13, HF⟩
 ·
  have hd13 := of_decide_eq_true hb13
  have hk13 : k < q.length := by omega
  have hat := qv4 hk13
  have hoq := congrArg List.length (qti hk13)
  rw [List.length_append] at hoq
  have hol := qpo (q.getD k Hb.zero).b
  have htk := qqg (q := q) k
  refine qf HF rfl (wp_skip (wp_seq (wp_block (wp_seq (qa ?_)))))
  obtain ⟨gA, oA, rfl, _⟩ := hr.qa3 (Nat.lt_of_le_of_lt (Nat.zero_le _) (show k < q.length from by omega)) (by decide)
  refine fy HF HM 0 rfl rfl rfl (v := vP gA (oA + k * 5)) (Yl.ix gA oA k 5 rfl rfl rfl) fun a HF => ?_
  refine fy HF HM 1 rfl rfl rfl (v := .agg ((q.getD k Hb.zero).b.cells (q.getD k Hb.zero).A (q.getD k Hb.zero).c)) (Yl.zt rfl rfl si_bk rfl (fun _ h => (h.old hr).qeq qe9 ((getD_at Hb.zero (k := k) (by first | omega | (simp; omega)))))) fun a HF => ?_
  refine fo HF 2 rfl rfl ?_
  refine qr HF HM (cs := #[vB 0, vB 0, vI 0, vI 0, .slice none 0 0]) rfl (by kernel_rfl) rfl (by decide) ?_
  clear HF HM; intro a w7 g7 HF HM
  refine fo HF 3 rfl rfl ?_
  refine e_sa HF HM 0 rfl rfl rfl rfl rfl si_bk rfl rfl (qce _ _ _) ?_
  clear HM; intro w5_3 HM
  refine qb rfl (wp_seq (qa ?_))
  refine fy HF HM 0 rfl rfl rfl (v := .agg ((q.getD k Hb.zero).b.cells (q.getD k Hb.zero).A (q.getD k Hb.zero).c)) (Yl.zt rfl rfl si_bk rfl (fun _ h => qd (h.blk (i := 0) rfl))) fun a HF => ?_
  refine fo HF 1 rfl rfl ?_
  refine e_cl HF [.agg ((q.getD k Hb.zero).b.cells (q.getD k Hb.zero).A (q.getD k Hb.zero).c)] rfl rfl (qpx (q.getD k Hb.zero).b (hok _ (qct Hb.zero hk13)) ((q.getD k Hb.zero).A) (q.getD k Hb.zero).c B _ (hL.mem HM hB) (HM.le hB) (HM.old (hQ.at hk13)) (hev _ (qct Hb.zero hk13)) rfl rfl) ?_
  rintro _ w18 ⟨⟨A18, c18, rfl, ho, hc18⟩, hbw⟩
  refine ⟨_, rfl, ?_⟩
  replace HM := HM.callRow hbw ho
  clear HF; intro a HF
  refine fp HF 5 2 [(9, vI ((q.getD k Hb.zero).b.err)), (8, .slice A18 ((q.getD k Hb.zero).b.out.length) c18)] fun a HF => ?_
  refine qb rfl (wp_seq (wp_seq (qa ?_)))
  refine fp HF 2 0 [(22, .bool (((q.getD k Hb.zero).b.err : Int) != (0 : Int)))] fun a HF => ?_
  refine qb rfl ?_
  rcases HF.tf 22 rfl with ⟨hb22, HF⟩ | ⟨hb22, HF⟩
  ·
   have hd22 := bne_iff_ne.1 hb22
   have hE : errL (q.map Hb.b) = (q.getD k Hb.zero).b.err := by rw [her, hat, if_neg (by omega)]
   refine qf HF rfl (wp_seq (qa ?_))
   refine fp HF 3 0 [(3, vI ((q.getD k Hb.zero).b.err)), (2, .slice none 0 0)] fun a HF => ?_
   refine qb rfl (wp_ret ?_)
   exact ret2 rfl HF (.tmp HF rfl) (.tmp HF rfl) (qhy HM.below (qhx (by rw [hE]; omega)) (by rw [hE]))
  have hd22 := bne_eq_false_iff_eq.1 hb22
  have hE : errL (q.map Hb.b) = errL ((q.drop (k + 1)).map Hb.b) := by rw [her, hat, if_pos (by omega)]
  refine qe HF rfl (wp_skip (wp_seq (qa ?_)))
  refine fp HF 2 0 [(25, .bool lg)] fun a HF => ?_
  rcases HF.tf 25 rfl with ⟨hb25, HF⟩ | ⟨hb25, HF⟩
  ·
   have hlong : 524288 < (outsL ((q.take k).map Hb.b)).length := of_decide_eq_true (hlg.symm.trans hb25)
   refine fp HF 8 2 [(5, .bool true)] fun a HF => ?_
   refine qb rfl (wp_seq (qa ?_))
   refine fp HF 2 0 [(34, .bool false)] fun a HF => ?_
   refine qb rfl (qe HF rfl (wp_skip (qa ?_)))
   refine fp HF 1 0 [(38, vI (IntKind.i64.wrap ((k : Int) + 1)))] fun a HF => ?_
   replace HF := HF.sp 38 (vI (k + 1 : Nat)) rfl (qp (by omega) (by omega))
   refine fp HF 1 1 [(12, vI (k + 1 : Nat))] fun a HF => ?_
   refine qb rfl ?_
   exact ⟨_, (by omega), k + 1, true, R, Ao, co, by omega, hE, (decide_eq_true (by omega)).symm, (by intro h; cases h), hRl, hco, rfl, HF.sub (by kernel_rfl), HM.picks [2] (by decide) rfl⟩
  have hlong : ¬ 524288 < (outsL ((q.take k).map Hb.b)).length := of_decide_eq_false (hlg.symm.trans hb25)
  have hRe := hR hb25
  have hRl2 : R.length = (outsL ((q.take k).map Hb.b)).length := by rw [hRe]
  refine fp HF 1 2 [(26, .slice Ao R.length co)] fun a HF => ?_
  refine fy HF HM 3 rfl rfl rfl (Yl.len rfl rfl (by kernel_rfl)) fun a HF => ?_
  refine fp HF 1 4 [(28, .slice A18 ((q.getD k Hb.zero).b.out.length) c18)] fun a HF => ?_
  refine fy HF HM 5 rfl rfl rfl (Yl.len rfl rfl (by kernel_rfl)) fun a HF => ?_
  refine fp HF 1 6 [(30, vI (IntKind.i64.wrap ((R.length : Int) + (((q.getD k Hb.zero).b.out.length : Nat) : Int))))] fun a HF => ?_
  replace HF := HF.sp 30 (vI (R.length + ((q.getD k Hb.zero).b.out.length) : Nat)) rfl (qp (by omega) (by omega))
  refine fp HF 3 7 [(5, .bool (decide (((R.length + ((q.getD k Hb.zero).b.out.length) : Nat) : Int) > (524288 : Int))))] fun a HF => ?_
  refine qb rfl (wp_seq (qa ?_))
  refine fp HF 2 0 [(34, .bool (!(decide (((R.length + ((q.getD k Hb.zero).b.out.length) : Nat) : Int) > (524288 : Int)))))] fun a HF => ?_
  refine qb rfl ?_
  rcases HF.tf 34 rfl with ⟨hb34, HF⟩ | ⟨hb34, HF⟩
  ·
   have hd34 := of_decide_eq_false ((Bool.not_eq_true' _).mp hb34)
   replace HF := HF.on 5 ((Bool.not_eq_true' _).mp hb34)
   refine qf HF rfl (qa ?_)
   refine fp HF 2 0 [(36, .slice A18 ((q.getD k Hb.zero).b.out.length) c18), (35, .slice Ao R.length co)] fun a HF => ?_
   refine fo HF 2 rfl rfl ?_
   refine zo HF HM (i := 2) rfl ei_u8 rfl rfl rfl (news := ((q.getD k Hb.zero).b.out.map B8)) (HM.rd (i := 0) rfl) (qfj _) (by omega) (by omega) rfl (by decide) ?_
   clear HF HM; intro a w37 A37 c37 HF HM hc37
   rw [show (R.map B8) ++ ((q.getD k Hb.zero).b.out.map B8) = (R ++ (q.getD k Hb.zero).b.out).map B8 from by rw [List.map_append]] at HM
   refine fp HF 1 3 [(4, .slice A37 (R.length + ((q.getD k Hb.zero).b.out.length)) c37)] fun a HF => ?_
   refine qb rfl ?_
   have hnA37 : R.length + ((q.getD k Hb.zero).b.out.length) = (R ++ (q.getD k Hb.zero).b.out).length := by rw [List.length_append]
   replace HM := HM.reRow (i := 2) (ys := (R ++ (q.getD k Hb.zero).b.out).map B8) rfl hnA37 (rfl)
   rw [hnA37] at hc37
   replace HF := HF.as (t := 4) (u := .slice A37 ((R ++ (q.getD k Hb.zero).b.out).length) c37) rfl (by rw [hnA37])
   replace HF := HF.as (t := 37) (u := .slice A37 ((R ++ (q.getD k Hb.zero).b.out).length) c37) rfl (by rw [hnA37])
   refine qa ?_
   refine fp HF 1 0 [(38, vI (IntKind.i64.wrap ((k : Int) + 1)))] fun a HF => ?_
   replace HF := HF.sp 38 (vI (k + 1 : Nat)) rfl (qp (by omega) (by omega))
   refine fp HF 1 1 [(12, vI (k + 1 : Nat))] fun a HF => ?_
   refine qb rfl ?_
   exact ⟨_, (by omega), k + 1, false, (R ++ (q.getD k Hb.zero).b.out), A37, c37, by omega, hE, (decide_eq_false (by omega)).symm, (by intro _; rw [hRe, qti hk13]), (by rw [List.length_append]; omega), hc37, rfl, HF.sub (by kernel_rfl), HM.picks [2] (by decide) rfl⟩
  have hd34 := of_decide_eq_true ((Bool.not_eq_false' _).mp hb34)
  replace HF := HF.on 5 ((Bool.not_eq_false' _).mp hb34)
  refine qe HF rfl (wp_skip (qa ?_))
  refine fp HF 1 0 [(38, vI (IntKind.i64.wrap ((k : Int) + 1)))] fun a HF => ?_
  replace HF := HF.sp 38 (vI (k + 1 : Nat)) rfl (qp (by omega) (by omega))
  refine fp HF 1 1 [(12, vI (k + 1 : Nat))] fun a HF => ?_
  refine qb rfl ?_
  exact ⟨_, (by omega), k + 1, true, R, Ao, co, by omega, hE, (decide_eq_true (by omega)).symm, (by intro h; cases h), hRl, hco, rfl, HF.sub (by kernel_rfl), HM.picks [2] (by decide) rfl⟩
 have hd13 := of_decide_eq_false hb13
 have hkn : k = q.length := by omega
 have hdn : errL (q.map Hb.b) = 0 := by rw [her, List.drop_of_length_le (by omega)]; rfl
 have htn : q.take k = q := List.take_of_length_le (by omega)
 rw [htn] at hlg hR
 refine qe HF rfl (wp_exit (wp_seq (wp_seq (qa ?_))))
 refine fp HF 1 0 [(39, .bool lg)] fun a HF => ?_
 refine qb rfl ?_
 rcases HF.tf 39 rfl with ⟨hb39, HF⟩ | ⟨hb39, HF⟩
 ·
  have hlong : 524288 < (outsL (q.map Hb.b)).length := of_decide_eq_true (hlg.symm.trans hb39)
  refine qf HF rfl (wp_seq (qa ?_))
  refine fp HF 2 0 [(3, vI 3), (2, .slice none 0 0)] fun a HF => ?_
  refine qb rfl (wp_ret ?_)
  exact ret2 rfl HF (.tmp HF rfl) (.tmp HF rfl) (qhy HM.below (qln hdn hlong) rfl)
 have hlong : ¬ 524288 < (outsL (q.map Hb.b)).length := of_decide_eq_false (hlg.symm.trans hb39)
 have hRe := hR hb39
 refine qe HF rfl (wp_skip (wp_seq (qa ?_)))
 refine fp HF 3 0 [(3, vI 0), (2, .slice Ao R.length co)] fun a HF => ?_
 refine qb rfl (wp_ret ?_)
 exact ret2 rfl HF (.tmp HF rfl) (.tmp HF rfl) (by rw [qqf hdn hlong, ← hRe]; exact ⟨⟨Ao, co, rfl, HM.own (i := 0) rfl, hco⟩, HM.below⟩)
theorem qnw (g : Nat) (lim : Int) (A : Option Addr) (n c : Nat) (w : World) (hg : w.heap[g]? = some (.cells #[.int .i64 lim, .slice A n c] 95 (0, 0))) :
    Calls Tryd.prog 39 #[.pointer (some ⟨g, 0, none⟩)] w (Is w (.bool (lim == 0))) := by
 refine qg (vs := [vP g 0]) Tryd.func39 rfl rfl (by kernel_rfl) (σ0 := [(0, vP g 0)]) rfl ?_
 intro a HF
 have HM := Mem.start w
 refine wp_seq (qa ?_)
 refine fp HF 1 0 [(2, .bool false)] fun a HF => ?_
 refine qb rfl (wp_seq (qa ?_))
 refine fp HF 1 0 [(3, vP g 0)] fun a HF => ?_
 refine fy HF HM 1 rfl rfl rfl (v := .bool false) (Yl.qkw rfl rfl rfl) fun a HF => ?_
 refine fp HF 2 2 [(6, vP g 0), (5, .bool false)] fun a HF => ?_
 refine fy HF HM 4 rfl rfl rfl (v := vP g 0) (Yl.nilCheck rfl rfl) fun a HF => ?_
 refine fp HF 1 5 [(8, vP g 0)] fun a HF => ?_
 refine fy HF HM 6 rfl rfl rfl (v := vI lim) (Yl.qi rfl rfl (by kernel_rfl) (fun _ h => h.zb hg rfl)) fun a HF => ?_
 refine fp HF 3 7 [(2, .bool ((lim : Int) == (0 : Int)))] fun a HF => ?_
 refine qb rfl (wp_ret ?_)
 exact ret1 rfl HF (.tmp HF rfl) (⟨rfl, HM.below⟩)
theorem qeo (g : Nat) (lim : Int) (A : Option Addr) (n c : Nat) (w : World) (hg : w.heap[g]? = some (.cells #[.int .i64 lim, .slice A n c] 95 (0, 0))) (hlim : lim ≠ 0) :
  Calls Tryd.prog 39 #[.pointer (some ⟨g, 0, none⟩)] w (Is w (.bool false)) := by
 have h := qnw g lim A n c w hg
 rwa [beq_false_of_ne hlim] at h
theorem qkn (A : Option Addr) (c : Nat) (l : List Nat) (w : World) (hr : Rd w w.heap.size 1 A l.length (l.map B8)) (hn : l.length ≤ 100000000) :
    Calls Tryd.prog 41 #[.slice A l.length c] w (qag w l) := by
 refine qg (vs := [.slice A l.length c]) Tryd.func41 rfl rfl (by kernel_rfl) (σ0 := [(0, .slice A l.length c)]) rfl ?_
 intro a HF
 have HM := Mem.start w
 refine wp_seq (qa ?_)
 refine fp HF 1 0 [(2, .slice none 0 0)] fun a HF => ?_
 refine qb rfl (wp_seq (wp_seq (qa ?_)))
 refine fp HF 1 0 [(3, .slice A l.length c)] fun a HF => ?_
 refine fy HF HM 1 rfl rfl rfl (v := .bool A.isNone) (Yl.qwm rfl rfl rfl) fun a HF => ?_
 refine qb rfl ?_
 rcases HF.tf 4 rfl with ⟨hb4, HF⟩ | ⟨hb4, HF⟩
 ·
  obtain rfl : A = none := by cases A with | none => rfl | some a => cases hb4
  obtain rfl : l = [] := hr.qvc
  refine qf HF rfl (wp_seq (qa ?_))
  refine fp HF 1 0 [(2, .slice none 0 0)] fun a HF => ?_
  refine qb rfl (wp_ret ?_)
  exact ret1 rfl HF (.tmp HF rfl) (⟨⟨none, 0, rfl, World.ownsRow_nil _ _ _ _, Nat.le_refl _⟩, HM.below⟩)
 refine qe HF rfl (wp_skip (wp_seq (qa ?_)))
 refine fo HF 0 rfl rfl ?_
 refine qrs HF HM rfl ei_u8 rfl (by decide) ?_
 clear HF HM; intro a w5 g5 HF HM
 refine fp HF 1 1 [(6, .slice A l.length c)] fun a HF => ?_
 refine fo HF 2 rfl rfl ?_
 refine zo HF HM (i := 0) rfl ei_u8 rfl rfl rfl (news := (l.map B8)) (HM.old hr) (qfj _) (by omega) (by omega) rfl (by decide) ?_
 clear HF HM; intro a w7 A7 c7 HF HM hc7
 refine fp HF 1 3 [(2, .slice A7 (0 + l.length) c7)] fun a HF => ?_
 refine qb rfl (wp_ret ?_)
 exact ret1 rfl HF (.tmp HF rfl) (⟨⟨A7, c7, by rw [Nat.zero_add], by have h := HM.own (i := 0) rfl; rwa [Nat.zero_add, List.nil_append] at h, by omega⟩, HM.below⟩)
def NewIs (w : World) (lim : Int) (r : Ending) (w' : World) : Prop := ((lim < 1 ∨ 4096 < lim) ∧ Is w (.tuple #[.pointer none, .int .i64 2]) r w') ∨ (¬ (lim < 1 ∨ 4096 < lim) ∧ ∃ g, r = .returned (.tuple #[.pointer (some ⟨g, 0, none⟩), .int .i64 0]) ∧ Mem w w' [.blk g #[.int .i64 lim, .slice none 0 0] 95])
theorem qmq {w w' : World} {lim : Int} (h : lim < 1 ∨ 4096 < lim) (hb : Below w.heap.size w w') : NewIs w lim (.returned (.tuple #[.pointer none, .int .i64 2])) w' := .inl ⟨h, rfl, hb⟩
theorem qsx {w w' : World} {lim : Int} {g : Nat} (h : ¬ (lim < 1 ∨ 4096 < lim)) (hm : Mem w w' [.blk g #[.int .i64 lim, .slice none 0 0] 95]) : NewIs w lim (.returned (.tuple #[.pointer (some ⟨g, 0, none⟩), .int .i64 0])) w' := .inr ⟨h, g, rfl, hm⟩
theorem qko (lim : Int) (hl : I64 lim) (w : World) :
    Calls Tryd.prog 14 #[.int .i64 lim] w (NewIs w lim) := by
 refine qg (vs := [vI lim]) Tryd.func14 rfl rfl (by kernel_rfl) (σ0 := [(0, vI lim)]) rfl ?_
 intro a HF
 have HM := Mem.start w
 refine wp_seq (qa ?_)
 refine fp HF 2 0 [(3, vI 0), (2, .pointer none)] fun a HF => ?_
 refine qb rfl (wp_seq (wp_seq (qa ?_)))
 refine fp HF 3 0 [(6, .bool (decide ((lim : Int) < (1 : Int))))] fun a HF => ?_
 rcases HF.tf 6 rfl with ⟨hb6, HF⟩ | ⟨hb6, HF⟩
 ·
  have hd6 := of_decide_eq_true hb6
  refine fp HF 3 3 [(9, .bool true)] fun a HF => ?_
  refine qb rfl (qf HF rfl (wp_seq (qa ?_)))
  refine fp HF 2 0 [(3, vI 2), (2, .pointer none)] fun a HF => ?_
  refine qb rfl (wp_ret ?_)
  exact ret2 rfl HF (.tmp HF rfl) (.tmp HF rfl) (qmq (by omega) HM.below)
 have hd6 := of_decide_eq_false hb6
 refine fp HF 3 3 [(9, .bool (decide ((lim : Int) > (4096 : Int))))] fun a HF => ?_
 refine qb rfl ?_
 rcases HF.tf 9 rfl with ⟨hb9, HF⟩ | ⟨hb9, HF⟩
 ·
  have hd9 := of_decide_eq_true hb9
  refine qf HF rfl (wp_seq (qa ?_))
  refine fp HF 2 0 [(3, vI 2), (2, .pointer none)] fun a HF => ?_
  refine qb rfl (wp_ret ?_)
  exact ret2 rfl HF (.tmp HF rfl) (.tmp HF rfl) (qmq (by omega) HM.below)
 have hd9 := of_decide_eq_false hb9
 refine qe HF rfl (wp_skip (wp_seq (qa ?_)))
 refine fp HF 1 0 [(10, vI lim)] fun a HF => ?_
 refine fy HF HM 1 rfl rfl rfl (v := .agg #[vI lim, .slice none 0 0]) (Yl.build (vs := [(0, vI lim)]) rfl (by kernel_rfl) (by kernel_rfl)) fun a HF => ?_
 refine fo HF 2 rfl rfl ?_
 refine e_box HF HM (cs := #[vI lim, .slice none 0 0]) rfl rfl rfl rfl (by decide) ?_
 clear HF HM; intro a w12 g12 HF HM
 refine fp HF 2 3 [(3, vI 0), (2, vP g12 0)] fun a HF => ?_
 refine qb rfl (wp_ret ?_)
 exact ret2 rfl HF (.tmp HF rfl) (.tmp HF rfl) (qsx (by omega) (HM.picks [0] (by decide) rfl))
theorem qnx (A : Option Addr) (c : Nat) (q : List Hb) (B : Nat) (w : World) (hL : LaidX B w) (hB : B ≤ w.heap.size) (hr : Rd w w.heap.size 5 A q.length (q.flatMap hbL)) (hQ : HbRd w q) (hok : ∀ h ∈ q, h.b.Ok) (hev : ∀ h ∈ q, h.b.evs.length ≤ 1000000) (hn : q.length ≤ 1000000) {R : List Nat} {er : Nat} (h : zu (q.map Hb.b) = (R, er)) :
  Calls Tryd.prog 20 #[.slice A q.length c] w (qaz w er R) := by
 have h1 := qlt A c q B w hL hB hr hQ hok hev hn
 rw [h] at h1
 exact h1
theorem qkp (W w : World) (g : Nat) (lim : Int) (A : Option Addr) (c : Nat) (out : List Nat) (fs : List Fact) (HW : Mem W w (.blk g #[.int .i64 lim, .slice A out.length c] 95 :: .row (.slice A out.length c) out.length (out.map B8) 5 1 :: fs)) (hc : out.length ≤ c) (hout : out.length ≤ 524288) (A2 : Option Addr) (c2 : Nat) (q : List Hb) (B : Nat) (hL : LaidX B w) (hBW : B ≤ W.heap.size) (hr : Rd w w.heap.size 5 A2 q.length (q.flatMap hbL)) (hQ : HbRd w q) (hok : ∀ h ∈ q, h.b.Ok) (hev : ∀ h ∈ q, h.b.evs.length ≤ 1000000) (hn : q.length ≤ 1000000) :
    Calls Tryd.prog 40 #[.pointer (some ⟨g, 0, none⟩), .slice A2 q.length c2] w (WrIs W 95 g lim (zg out (q.map Hb.b)).1 fs (.int .i64 ((zg out (q.map Hb.b)).2 : Int))) := by
 have hg := HW.blk (i := 0) rfl
 have hB := Nat.le_trans hBW HW.size
 have hrA := HW.rd (i := 1) rfl
 refine qg (vs := [vP g 0, .slice A2 q.length c2]) Tryd.func40 rfl rfl (by kernel_rfl) (σ0 := [(0, vP g 0), (1, .slice A2 q.length c2)]) rfl ?_
 intro a HF
 have HM := Mem.start w
 refine wp_seq (qa ?_)
 refine fp HF 1 0 [(4, vI 0)] fun a HF => ?_
 refine qb rfl ?_
 obtain ⟨R, er, hws⟩ : ∃ R er, zu (q.map Hb.b) = (R, er) := ⟨_, _, rfl⟩
 have hRl : R.length ≤ 524288 := by have h := qnk (q.map Hb.b); rw [hws] at h; exact h
 refine wp_seq (qa ?_)
 refine fp HF 1 0 [(8, .slice A2 q.length c2)] fun a HF => ?_
 refine fo HF 1 rfl rfl ?_
 refine e_cl HF [.slice A2 q.length c2] rfl rfl (qnx A2 c2 q B _ (hL.mem HM hB) (HM.le hB) (HM.old hr) (HbRd.old hQ HM) hok hev hn hws) ?_
 rintro _ w9 ⟨⟨A9, c9, rfl, ho, hc9⟩, hbw⟩
 refine ⟨_, rfl, ?_⟩
 replace HM := HM.callRow hbw ho
 clear HF; intro a HF
 refine fp HF 5 2 [(6, vI er), (5, .slice A9 R.length c9)] fun a HF => ?_
 refine qb rfl (wp_seq (wp_seq (qa ?_)))
 refine fp HF 2 0 [(13, .bool ((er : Int) != (0 : Int)))] fun a HF => ?_
 refine qb rfl ?_
 rcases HF.tf 13 rfl with ⟨hb13, HF⟩ | ⟨hb13, HF⟩
 ·
  have hd13 := bne_iff_ne.1 hb13
  refine qf HF rfl (wp_seq (qa ?_))
  refine fp HF 2 0 [(4, vI er)] fun a HF => ?_
  refine qb rfl (wp_ret ?_)
  exact ret1 rfl HF (.tmp HF rfl) (qit (qgo hws (by omega)) rfl hc (HW.call HM.below))
 have hd13 := bne_eq_false_iff_eq.1 hb13
 refine qe HF rfl (wp_skip (wp_seq (wp_seq (qa ?_))))
 refine fp HF 1 0 [(15, vP g 0)] fun a HF => ?_
 refine fy HF HM 1 rfl rfl rfl (v := vP g 0) (Yl.nilCheck rfl rfl) fun a HF => ?_
 refine fp HF 1 2 [(17, vP g 1)] fun a HF => ?_
 refine fy HF HM 3 rfl rfl rfl (v := .slice A out.length c) (Yl.qi rfl rfl (by kernel_rfl) (fun _ h => h.zb hg rfl)) fun a HF => ?_
 refine fy HF HM 4 rfl rfl rfl (Yl.len rfl rfl (by kernel_rfl)) fun a HF => ?_
 refine fp HF 1 5 [(20, .slice A9 R.length c9)] fun a HF => ?_
 refine fy HF HM 6 rfl rfl rfl (Yl.len rfl rfl (by kernel_rfl)) fun a HF => ?_
 refine fp HF 1 7 [(22, vI (IntKind.i64.wrap ((out.length : Int) + (R.length : Int))))] fun a HF => ?_
 replace HF := HF.sp 22 (vI (out.length + R.length : Nat)) rfl (qp (by omega) (by omega))
 refine fp HF 1 8 [(23, .bool (decide (((out.length + R.length : Nat) : Int) > (524288 : Int))))] fun a HF => ?_
 refine qb rfl ?_
 rcases HF.tf 23 rfl with ⟨hb23, HF⟩ | ⟨hb23, HF⟩
 ·
  have hd23 := of_decide_eq_true hb23
  refine qf HF rfl (wp_seq (qa ?_))
  refine fp HF 1 0 [(4, vI 3)] fun a HF => ?_
  refine qb rfl (wp_ret ?_)
  exact ret1 rfl HF (.tmp HF rfl) (qit (qkf hws (by omega) (by omega)) rfl hc (HW.call HM.below))
 have hd23 := of_decide_eq_false hb23
 replace HM : Mem W _ (.row (.slice A9 R.length c9) R.length (R.map B8) 5 1 :: .blk g #[vI lim, .slice A out.length c] 95 :: .row (.slice A out.length c) out.length (out.map B8) 5 1 :: fs) := HW.join HM
 refine qe HF rfl (wp_skip (wp_seq (qa ?_)))
 refine fp HF 2 0 [(25, vP g 0), (24, vP g 0)] fun a HF => ?_
 refine fy HF HM 2 rfl rfl rfl (v := vP g 0) (Yl.nilCheck rfl rfl) fun a HF => ?_
 refine fp HF 1 3 [(27, vP g 1)] fun a HF => ?_
 refine fy HF HM 4 rfl rfl rfl (Yl.qi rfl rfl (by kernel_rfl) (fun _ h => h.cell (i := 1) rfl rfl)) fun a HF => ?_
 refine fp HF 1 5 [(29, .slice A9 R.length c9)] fun a HF => ?_
 refine fo HF 6 rfl rfl ?_
 refine zo HF HM (i := 2) rfl ei_u8 rfl rfl rfl (news := (R.map B8)) (HM.rd (i := 0) rfl) (qfj _) (by omega) (by omega) rfl (by decide) ?_
 clear HF HM; intro a w30 A30 c30 HF HM hc30
 rw [show (out.map B8) ++ (R.map B8) = (out ++ R).map B8 from by rw [List.map_append]] at HM
 refine fy HF HM 7 rfl rfl rfl (v := vP g 0) (Yl.nilCheck rfl rfl) fun a HF => ?_
 refine fp HF 1 8 [(32, vP g 1)] fun a HF => ?_
 refine fo HF 9 rfl rfl ?_
 refine za HF HM (i := 1) (cs := #[vI lim, .slice A out.length c]) rfl rfl rfl rfl (by kernel_rfl) rfl rfl (by simp) ?_
 clear HM; intro w6_9 HM
 refine qb rfl ?_
 have hnA30 : out.length + R.length = (out ++ R).length := by rw [List.length_append]
 replace HM := HM.reRow (i := 2) (ys := (out ++ R).map B8) rfl hnA30 (rfl)
 rw [hnA30] at hc30
 replace HF := HF.as (t := 30) (u := .slice A30 ((out ++ R).length) c30) rfl (by rw [hnA30])
 replace HM := HM.reBlk (i := 1) (ds := #[.int .i64 lim, .slice A30 (out ++ R).length c30]) rfl (by rw [hnA30]; rfl)
 refine wp_seq (qa ?_)
 refine fp HF 1 0 [(4, vI 0)] fun a HF => ?_
 refine qb rfl (wp_ret ?_)
 exact ret1 rfl HF (.tmp HF rfl) (qit (qnm hws (by omega) (by omega)) rfl hc30 (HM.picksT 3 [1, 2] (by decide) (by decide) rfl))
theorem qgt (W w : World) (g : Nat) (lim : Int) (A : Option Addr) (c : Nat) (out : List Nat) (fs : List Fact) (HW : Mem W w (.blk g #[.int .i64 lim, .slice A out.length c] 95 :: .row (.slice A out.length c) out.length (out.map B8) 5 1 :: fs)) (hc : out.length ≤ c) (hout : out.length ≤ 524288) (A2 : Option Addr) (c2 : Nat) (q : List Hb) (B : Nat) (hL : LaidX B w) (hBW : B ≤ W.heap.size) (hr : Rd w w.heap.size 5 A2 q.length (q.flatMap hbL)) (hQ : HbRd w q) (hok : ∀ h ∈ q, h.b.Ok) (hev : ∀ h ∈ q, h.b.evs.length ≤ 1000000) (hn : q.length ≤ 1000000) {o2 : List Nat} {we : Nat} (h : zg out (q.map Hb.b) = (o2, we)) :
  Calls Tryd.prog 40 #[.pointer (some ⟨g, 0, none⟩), .slice A2 q.length c2] w (WrIs W 95 g lim o2 fs (.int .i64 (we : Int))) := by
 have h1 := qkp W w g lim A c out fs HW hc hout A2 c2 q B hL hBW hr hQ hok hev hn
 rw [h] at h1
 exact h1
theorem qcw (cpu : Nat) (hcpu : cpu < 256) (A : Option Addr) (n c : Nat) (l : List It) (opn limit : Int) (hok : ∀ x ∈ l, x.Ok) (ho : I64 opn) (hlm : I64 limit) (B : Nat) (w : World) (hL : LaidX B w) (hB : B ≤ w.heap.size) (hr : Rd w w.heap.size 12 A n (l.flatMap itL)) (hc : n ≤ c) (hln : l.length = n) (hn : n ≤ 1000000) {bs : List Bk} {ce : Nat} (h : cutS cpu l opn limit = (bs, ce)) :
  Calls Tryd.prog 12 #[.int .u8 (cpu : Int), .slice A n c, .int .i64 opn, .int .i64 limit] w (qjy 45 41 w ce bs) := by
 have h1 := qqy cpu hcpu A n c l opn limit hok ho hlm B w hL hB hr hc hln hn
 rw [h] at h1
 exact h1
theorem qqz (W w : World) (g : Nat) (lim : Int) (A : Option Addr) (c : Nat) (out : List Nat) (fs : List Fact) (HW : Mem W w (.blk g #[.int .i64 lim, .slice A out.length c] 95 :: .row (.slice A out.length c) out.length (out.map B8) 5 1 :: fs)) (hc : out.length ≤ c) (hout : out.length ≤ 524288) (hlim : lim ≠ 0) (hlm : I64 lim) (cpu : Nat) (hcpu : cpu < 256) (A2 : Option Addr) (c2 : Nat) (l : List It) (opn : Int) (hok : ∀ x ∈ l, x.Ok) (ho : I64 opn) (B : Nat) (hL : LaidX B w) (hBW : B ≤ W.heap.size) (hr : Rd w w.heap.size 12 A2 l.length (l.flatMap itL)) (hc2 : l.length ≤ c2) (hn : l.length ≤ 999999) :
    Calls Tryd.prog 17 #[.pointer (some ⟨g, 0, none⟩), .int .u8 (cpu : Int), .slice A2 l.length c2, .int .i64 opn] w (WrIs W 95 g lim (putW out lim cpu l opn).1 fs (.tuple #[.int .i64 ((putW out lim cpu l opn).2.1 : Int), .int .i64 ((putW out lim cpu l opn).2.2 : Int)])) := by
 have hg := HW.blk (i := 0) rfl
 have hB := Nat.le_trans hBW HW.size
 have hrA := HW.rd (i := 1) rfl
 refine qg (vs := [vP g 0, vB cpu, .slice A2 l.length c2, vI opn]) Tryd.func17 rfl rfl (by kernel_rfl) (σ0 := [(0, vP g 0), (1, vB cpu), (2, .slice A2 l.length c2), (3, vI opn)]) rfl ?_
 intro a HF
 have HM := Mem.start w
 refine wp_seq (qa ?_)
 refine fp HF 2 0 [(9, vI 0), (8, vI 0)] fun a HF => ?_
 refine qb rfl ?_
 obtain ⟨bs, ce, hcs⟩ : ∃ bs ce, cutS cpu l opn lim = (bs, ce) := ⟨_, _, rfl⟩
 obtain ⟨o2, we, hwb⟩ : ∃ o2 we, zg out bs = (o2, we) := ⟨_, _, rfl⟩
 refine wp_seq (wp_seq (qa ?_))
 refine fp HF 1 0 [(12, vP g 0)] fun a HF => ?_
 refine fo HF 1 rfl rfl ?_
 refine e_is HF HM [vP g 0] (.bool false) rfl rfl (qeo g lim A out.length c _ (HM.oldBlk hg) hlim) fun w13 hbw HM a HF => ?_
 refine qb rfl (qe HF rfl (wp_skip (wp_seq (qa ?_))))
 refine fp HF 4 0 [(18, vP g 0), (17, vI opn), (16, .slice A2 l.length c2), (15, vB cpu)] fun a HF => ?_
 refine fy HF HM 4 rfl rfl rfl (v := vP g 0) (Yl.nilCheck rfl rfl) fun a HF => ?_
 refine fp HF 1 5 [(20, vP g 0)] fun a HF => ?_
 refine fy HF HM 6 rfl rfl rfl (v := vI lim) (Yl.qi rfl rfl (by kernel_rfl) (fun _ h => h.zb hg rfl)) fun a HF => ?_
 refine fo HF 7 rfl rfl ?_
 refine e_cl HF [vB cpu, .slice A2 l.length c2, vI opn, vI lim] rfl rfl (qcw cpu hcpu A2 l.length c2 l opn lim hok ho hlm B _ (hL.mem HM hB) (HM.le hB) (HM.old hr) hc2 rfl (by omega) hcs) ?_
 rintro _ w22 ⟨Ac, cc, q, rfl, hqb, hcc, hm⟩
 have hql : bs.length = q.length := by rw [← hqb, List.length_map]
 rw [hql] at hm hcc ⊢
 refine ⟨_, rfl, ?_⟩
 replace HM := Mem.qwn HM hm
 clear HF; intro a HF
 refine fp HF 5 8 [(11, vI ce), (10, .slice Ac q.length cc)] fun a HF => ?_
 refine qb rfl (wp_seq (wp_seq (qa ?_)))
 refine fp HF 2 0 [(26, .bool ((ce : Int) == (0 : Int)))] fun a HF => ?_
 refine qb rfl ?_
 rcases HF.tf 26 rfl with ⟨hb26, HF⟩ | ⟨hb26, HF⟩
 ·
  have hd26 := eq_of_beq hb26
  have hww : zg out (q.map Hb.b) = (o2, we) := by rw [hqb]; exact hwb
  have hcg := qqk hcpu hok ho hcs
  have hqok : ∀ h ∈ q, h.b.Ok := fun h hh => (hcg.1 h.b (by rw [← hqb]; exact List.mem_map_of_mem hh))
  have hqev : ∀ h ∈ q, h.b.evs.length ≤ 1000000 := fun h hh => Nat.le_trans (hcg.2.1 h.b (by rw [← hqb]; exact List.mem_map_of_mem hh)) (by omega)
  have hbl := hcg.2.2
  replace HM : Mem W _ (.row (.slice Ac q.length cc) q.length (q.flatMap hbL) 41 5 :: .blk g #[vI lim, .slice A out.length c] 95 :: .row (.slice A out.length c) out.length (out.map B8) 5 1 :: (hbF 45 q ++ (fs))) := Mem.qwg (HW.join HM)
  refine qf HF rfl (qa ?_)
  refine fp HF 2 0 [(28, .slice Ac q.length cc), (27, vP g 0)] fun a HF => ?_
  refine fo HF 2 rfl rfl ?_
  refine e_cl HF [vP g 0, .slice Ac q.length cc] rfl rfl (qgt W _ g lim A c out _ (HM.picksT 3 [1, 2, 0] (by decide) (by decide) rfl) hc hout Ac cc q B (hL.mem2 HW HM hBW) hBW (HM.rd (i := 0) rfl) (Mem.qwo (a := [.row (.slice Ac q.length cc) q.length (q.flatMap hbL) 41 5, .blk g #[vI lim, .slice A out.length c] 95, .row (.slice A out.length c) out.length (out.map B8) 5 1]) HM) hqok hqev (by omega) hww) ?_
  rintro _ w29 ⟨rfl, A29, c29, hc29, HM2⟩
  refine ⟨_, rfl, ?_⟩
  replace HM := HM2
  clear HF; intro a HF
  refine fp HF 1 3 [(11, vI we)] fun a HF => ?_
  refine qb rfl (wp_seq (wp_seq (qa ?_)))
  refine fp HF 2 0 [(31, .bool ((we : Int) != (0 : Int)))] fun a HF => ?_
  refine qb rfl ?_
  rcases HF.tf 31 rfl with ⟨hb31, HF⟩ | ⟨hb31, HF⟩
  ·
   have hd31 := bne_iff_ne.1 hb31
   refine qf HF rfl (wp_seq (qa ?_))
   refine fp HF 3 0 [(9, vI we), (8, vI 0)] fun a HF => ?_
   refine qb rfl (wp_ret ?_)
   exact ret2 rfl HF (.tmp HF rfl) (.tmp HF rfl) (qiu (qqi hcs (by omega) hwb (by omega)) rfl rfl hc29 (Mem.drop2 (HM.picksT 3 [0, 1] (by decide) (by decide) rfl)))
  have hd31 := bne_eq_false_iff_eq.1 hb31
  refine qe HF rfl (wp_skip (wp_seq (qa ?_)))
  refine fp HF 1 0 [(33, .slice Ac q.length cc)] fun a HF => ?_
  refine fy HF HM 1 rfl rfl rfl (Yl.len rfl rfl (by kernel_rfl)) fun a HF => ?_
  refine fp HF 2 2 [(9, vI 0), (8, vI q.length)] fun a HF => ?_
  refine qb rfl (wp_ret ?_)
  exact ret2 rfl HF (.tmp HF rfl) (.tmp HF rfl) (qiu (qsm hcs (by omega) hwb (by omega)) (by rw [hql]) rfl hc29 (Mem.drop2 (HM.picksT 3 [0, 1] (by decide) (by decide) rfl)))
 have hd26 := ne_of_beq_false hb26
 refine qe HF rfl (wp_skip (wp_seq (wp_seq (qa ?_))))
 refine fp HF 2 0 [(31, .bool ((ce : Int) != (0 : Int)))] fun a HF => ?_
 refine qb rfl ?_
 rcases HF.tf 31 rfl with ⟨hb31, HF⟩ | ⟨hb31, HF⟩
 ·
  have hd31 := bne_iff_ne.1 hb31
  refine qf HF rfl (wp_seq (qa ?_))
  refine fp HF 3 0 [(9, vI ce), (8, vI 0)] fun a HF => ?_
  refine qb rfl (wp_ret ?_)
  exact ret2 rfl HF (.tmp HF rfl) (.tmp HF rfl) (qiu (qkg hcs (by omega)) rfl rfl hc (HW.call HM.below))
 have hd31 := bne_eq_false_iff_eq.1 hb31
 exfalso; omega
theorem qq0 (W w : World) (g : Nat) (lim : Int) (A : Option Addr) (c : Nat) (out : List Nat) (fs : List Fact) (HW : Mem W w (.blk g #[.int .i64 lim, .slice A out.length c] 95 :: .row (.slice A out.length c) out.length (out.map B8) 5 1 :: fs)) (hc : out.length ≤ c) (hout : out.length ≤ 524288) (hlim : lim ≠ 0) (next : Int) (hnx : I64 next) (B : Nat) (hL : LaidX B w) (hBW : B ≤ W.heap.size) :
    Calls Tryd.prog 15 #[.pointer (some ⟨g, 0, none⟩), .int .i64 next] w (WrIs W 95 g lim (zg out [endB next]).1 fs (.int .i64 ((zg out [endB next]).2 : Int))) := by
 have hg := HW.blk (i := 0) rfl
 have hB := Nat.le_trans hBW HW.size
 have hrA := HW.rd (i := 1) rfl
 refine qg (vs := [vP g 0, vI next]) Tryd.func15 rfl rfl (by kernel_rfl) (σ0 := [(0, vP g 0), (1, vI next)]) rfl ?_
 intro a HF
 have HM := Mem.start w
 refine wp_seq (qa ?_)
 refine fp HF 1 0 [(4, vI 0)] fun a HF => ?_
 refine qb rfl (wp_seq (wp_seq (qa ?_)))
 refine fp HF 1 0 [(5, vP g 0)] fun a HF => ?_
 refine fo HF 1 rfl rfl ?_
 refine e_is HF HM [vP g 0] (.bool false) rfl rfl (qeo g lim A out.length c _ (HM.oldBlk hg) hlim) fun w6 hbw HM a HF => ?_
 refine qb rfl ?_
 replace HM : Mem W _ (.blk g #[vI lim, .slice A out.length c] 95 :: .row (.slice A out.length c) out.length (out.map B8) 5 1 :: fs) := HW.join HM
 obtain ⟨o2, we, hww⟩ : ∃ o2 we, zg out [endB next] = (o2, we) := ⟨_, _, rfl⟩
 refine qe HF rfl (wp_skip (wp_seq (qa ?_)))
 refine fp HF 2 0 [(8, vI next), (7, vP g 0)] fun a HF => ?_
 refine fy HF HM 2 rfl rfl rfl (v := .agg #[vB 2, vB 0, vI 0, vI next, .slice none 0 0]) (Yl.build (vs := [(0, vB 2), (3, vI next)]) rfl (by kernel_rfl) (by kernel_rfl)) fun a HF => ?_
 refine fo HF 3 rfl rfl ?_
 refine qad HF HM (vs := [(0, .agg #[vB 2, vB 0, vI 0, vI next, .slice none 0 0])]) (cs := #[vB 2, vB 0, vI 0, vI next, .slice none 0 0]) rfl qmh (by decide) rfl (by kernel_rfl) rfl (by decide) ?_
 clear HF HM; intro a w10 g10 HF HM
 refine fo HF 4 rfl rfl ?_
 refine e_cl HF [vP g 0, vS g10 1 1] rfl rfl (qgt W _ g lim A c out _ (HM.picksT 3 [1, 2, 0] (by decide) (by decide) rfl) hc hout _ 1 [⟨endB next, none, 0⟩] B (hL.mem2 HW HM hBW) hBW (HM.rdBlk (i := 0) (n := 1) (size := 5) rfl rfl) (by intro x hx; rw [List.mem_singleton] at hx; subst hx; exact Rd.nil) (by intro x hx; rw [List.mem_singleton] at hx; subst hx; exact qum hnx) (by intro x hx; rw [List.mem_singleton] at hx; subst hx; exact Nat.zero_le _) (by show 1 ≤ 1000000; decide) hww) ?_
 rintro _ w11 ⟨rfl, A11, c11, hc11, HM2⟩
 refine ⟨_, rfl, ?_⟩
 replace HM := HM2
 clear HF; intro a HF
 refine fp HF 1 5 [(4, vI we)] fun a HF => ?_
 refine qb rfl (wp_ret ?_)
 exact ret1 rfl HF (.tmp HF rfl) (qit hww rfl hc11 (HM.picksT 3 [0, 1] (by decide) (by decide) rfl))
theorem qcx (g : Nat) (lim : Int) (A : Option Addr) (c : Nat) (out : List Nat) (w : World) (hg : w.heap[g]? = some (.cells #[.int .i64 lim, .slice A out.length c] 95 (0, 0))) (hrA : Rd w w.heap.size 1 A out.length (out.map B8)) (hout : out.length ≤ 524288) (hlim : lim ≠ 0) :
    Calls Tryd.prog 16 #[.pointer (some ⟨g, 0, none⟩)] w (qag w out) := by
 refine qg (vs := [vP g 0]) Tryd.func16 rfl rfl (by kernel_rfl) (σ0 := [(0, vP g 0)]) rfl ?_
 intro a HF
 have HM := Mem.start w
 refine wp_seq (qa ?_)
 refine fp HF 1 0 [(2, .slice none 0 0)] fun a HF => ?_
 refine qb rfl (wp_seq (wp_seq (qa ?_)))
 refine fp HF 1 0 [(3, vP g 0)] fun a HF => ?_
 refine fo HF 1 rfl rfl ?_
 refine e_is HF HM [vP g 0] (.bool false) rfl rfl (qeo g lim A out.length c _ (HM.oldBlk hg) hlim) fun w4 hbw HM a HF => ?_
 refine qb rfl (qe HF rfl (wp_skip (wp_seq (qa ?_))))
 refine fp HF 1 0 [(5, vP g 0)] fun a HF => ?_
 refine fy HF HM 1 rfl rfl rfl (v := vP g 0) (Yl.nilCheck rfl rfl) fun a HF => ?_
 refine fp HF 1 2 [(7, vP g 1)] fun a HF => ?_
 refine fy HF HM 3 rfl rfl rfl (v := .slice A out.length c) (Yl.qi rfl rfl (by kernel_rfl) (fun _ h => h.zb hg rfl)) fun a HF => ?_
 refine fo HF 4 rfl rfl ?_
 refine e_cl HF [.slice A out.length c] rfl rfl (qkn A c out _ (HM.old hrA) (by omega)) ?_
 rintro _ w9 ⟨⟨A9, c9, rfl, ho, hc9⟩, hbw⟩
 refine ⟨_, rfl, ?_⟩
 replace HM := HM.callRow hbw ho
 clear HF; intro a HF
 refine fp HF 1 5 [(2, .slice A9 out.length c9)] fun a HF => ?_
 refine qb rfl (wp_ret ?_)
 exact ret1 rfl HF (.tmp HF rfl) (⟨⟨_, _, rfl, HM.own (i := 0) rfl, hc9⟩, HM.below⟩)
theorem qq1 (g : Nat) (lim : Int) (A : Option Addr) (c : Nat) (out : List Nat) (w : World) (hg : w.heap[g]? = some (.cells #[.int .i64 lim, .slice A out.length c] 95 (0, 0))) (hlim : lim ≠ 0) :
    Calls Tryd.prog 18 #[.pointer (some ⟨g, 0, none⟩)] w (Is w (.int .i64 (out.length : Int))) := by
 refine qg (vs := [vP g 0]) Tryd.func18 rfl rfl (by kernel_rfl) (σ0 := [(0, vP g 0)]) rfl ?_
 intro a HF
 have HM := Mem.start w
 refine wp_seq (qa ?_)
 refine fp HF 1 0 [(2, vI 0)] fun a HF => ?_
 refine qb rfl (wp_seq (wp_seq (qa ?_)))
 refine fp HF 1 0 [(3, vP g 0)] fun a HF => ?_
 refine fo HF 1 rfl rfl ?_
 refine e_is HF HM [vP g 0] (.bool false) rfl rfl (qeo g lim A out.length c _ (HM.oldBlk hg) hlim) fun w4 hbw HM a HF => ?_
 refine qb rfl (qe HF rfl (wp_skip (wp_seq (qa ?_))))
 refine fp HF 1 0 [(5, vP g 0)] fun a HF => ?_
 refine fy HF HM 1 rfl rfl rfl (v := vP g 0) (Yl.nilCheck rfl rfl) fun a HF => ?_
 refine fp HF 1 2 [(7, vP g 1)] fun a HF => ?_
 refine fy HF HM 3 rfl rfl rfl (v := .slice A out.length c) (Yl.qi rfl rfl (by kernel_rfl) (fun _ h => h.zb hg rfl)) fun a HF => ?_
 refine fy HF HM 4 rfl rfl rfl (Yl.len rfl rfl (by kernel_rfl)) fun a HF => ?_
 refine fp HF 1 5 [(2, vI out.length)] fun a HF => ?_
 refine qb rfl (wp_ret ?_)
 exact ret1 rfl HF (.tmp HF rfl) (⟨rfl, HM.below⟩)
def qv8 (w : World) (l : List Nat) (r : Ending) (w' : World) : Prop := ∃ g A c, r = .returned (.pointer (some ⟨g, 0, none⟩)) ∧ l.length ≤ c ∧ Mem w w' [.blk g #[.bool true, .int .i64 0, .slice A l.length c] 108, .row (.slice A l.length c) l.length (l.map B8) 5 1]
theorem Mem.skip {W w : World} {f : Fact} {fs : List Fact} (h : Mem W w (f :: fs)) : Mem W w fs := h.tail
theorem qny (A : Option Addr) (c : Nat) (l : List Nat) (w : World) (hr : Rd w w.heap.size 1 A l.length (l.map B8)) (hn : l.length ≤ 100000000) :
    Calls Tryd.prog 25 #[.slice A l.length c] w (qv8 w l) := by
 refine qg (vs := [.slice A l.length c]) Tryd.func25 rfl rfl (by kernel_rfl) (σ0 := [(0, .slice A l.length c)]) rfl ?_
 intro a HF
 have HM := Mem.start w
 refine wp_seq (qa ?_)
 refine fp HF 1 0 [(2, .pointer none)] fun a HF => ?_
 refine qb rfl (wp_seq (qa ?_))
 refine fp HF 1 0 [(3, .slice A l.length c)] fun a HF => ?_
 refine fo HF 1 rfl rfl ?_
 refine e_cl HF [.slice A l.length c] rfl rfl (qkn A c l _ (HM.old hr) hn) ?_
 rintro _ w4 ⟨⟨A4, c4, rfl, ho, hc4⟩, hbw⟩
 refine ⟨_, rfl, ?_⟩
 replace HM := HM.callRow hbw ho
 clear HF; intro a HF
 refine fy HF HM 2 rfl rfl rfl (v := .agg #[.bool true, vI 0, .slice A4 l.length c4]) (Yl.build (vs := [(0, .bool true), (2, .slice A4 l.length c4)]) rfl (by kernel_rfl) (by kernel_rfl)) fun a HF => ?_
 refine fo HF 3 rfl rfl ?_
 refine e_box HF HM (cs := #[.bool true, vI 0, .slice A4 l.length c4]) rfl rfl rfl rfl (by decide) ?_
 clear HF HM; intro a w6 g6 HF HM
 refine fp HF 1 4 [(2, vP g6 0)] fun a HF => ?_
 refine qb rfl (wp_ret ?_)
 exact ret1 rfl HF (.tmp HF rfl) (⟨g6, A4, c4, rfl, hc4, HM⟩)
theorem qkq (g p : Nat) (A : Option Addr) (c : Nat) (l : List Nat) (w : World) (hg : w.heap[g]? = some (.cells #[.bool true, .int .i64 (p : Int), .slice A l.length c] 108 (0, 0))) :
    Calls Tryd.prog 27 #[.pointer (some ⟨g, 0, none⟩)] w (Is w (.int .i64 (p : Int))) := by
 refine qg (vs := [vP g 0]) Tryd.func27 rfl rfl (by kernel_rfl) (σ0 := [(0, vP g 0)]) rfl ?_
 intro a HF
 have HM := Mem.start w
 refine wp_seq (qa ?_)
 refine fp HF 1 0 [(2, vI 0)] fun a HF => ?_
 refine qb rfl (wp_seq (wp_seq (qa ?_)))
 refine fp HF 1 0 [(3, vP g 0)] fun a HF => ?_
 refine fy HF HM 1 rfl rfl rfl (v := .bool false) (Yl.qkw rfl rfl rfl) fun a HF => ?_
 refine qb rfl (qe HF rfl (wp_skip (wp_seq (qa ?_))))
 refine fp HF 1 0 [(5, vP g 0)] fun a HF => ?_
 refine fy HF HM 1 rfl rfl rfl (v := vP g 0) (Yl.nilCheck rfl rfl) fun a HF => ?_
 refine fp HF 1 2 [(7, vP g 1)] fun a HF => ?_
 refine fy HF HM 3 rfl rfl rfl (v := vI p) (Yl.qi rfl rfl (by kernel_rfl) (fun _ h => h.zb hg rfl)) fun a HF => ?_
 refine fp HF 1 4 [(2, vI p)] fun a HF => ?_
 refine qb rfl (wp_ret ?_)
 exact ret1 rfl HF (.tmp HF rfl) (⟨rfl, HM.below⟩)
theorem qnz (W w : World) (g p : Nat) (A : Option Addr) (c : Nat) (l : List Nat) (fs : List Fact) (HW : Mem W w (.blk g #[.bool true, .int .i64 (p : Int), .slice A l.length c] 108 :: .row (.slice A l.length c) l.length (l.map B8) 5 1 :: fs)) (hp : p ≤ l.length) (hc : l.length ≤ c) (hl : ∀ b ∈ l, b < 256) (hn : l.length ≤ 100000000) (B : Nat) (hL : LaidX B w) (hBW : B ≤ W.heap.size) :
    Calls Tryd.prog 26 #[.pointer (some ⟨g, 0, none⟩)] w (qtj W 108 g p l A c fs (nextR l p)) := by
 have hg := HW.blk (i := 0) rfl
 have hrA := HW.rd (i := 1) rfl
 have hB := Nat.le_trans hBW HW.size
 refine qg (vs := [vP g 0]) Tryd.func26 rfl rfl (by kernel_rfl) (σ0 := [(0, vP g 0)]) rfl ?_
 intro a HF
 have HM := Mem.start w
 refine wp_seq (qa ?_)
 refine fo HF 0 rfl rfl ?_
 refine qr HF HM (cs := #[vB 0, vB 0, vI 0, vI 0, .slice none 0 0]) rfl (by kernel_rfl) rfl (by decide) ?_
 clear HF HM; intro a w2 g2 HF HM
 refine fp HF 1 1 [(3, vI 0)] fun a HF => ?_
 refine qb rfl (wp_seq (wp_seq (qa ?_)))
 refine fp HF 1 0 [(7, vP g 0)] fun a HF => ?_
 refine fy HF HM 1 rfl rfl rfl (v := .bool false) (Yl.qkw rfl rfl rfl) fun a HF => ?_
 refine fp HF 2 2 [(10, vP g 0), (9, .bool false)] fun a HF => ?_
 refine fy HF HM 4 rfl rfl rfl (v := vP g 0) (Yl.nilCheck rfl rfl) fun a HF => ?_
 refine fp HF 1 5 [(12, vP g 0)] fun a HF => ?_
 refine fy HF HM 6 rfl rfl rfl (v := .bool true) (Yl.qi rfl rfl (by kernel_rfl) (fun _ h => h.zb hg rfl)) fun a HF => ?_
 refine fp HF 2 7 [(15, .bool false)] fun a HF => ?_
 refine qb rfl (qe HF rfl (wp_skip (wp_seq (wp_seq ?_))))
 refine qan HM [.blk g2 #[vB 0, vB 0, vI 0, vI 0, .slice none 0 0] 41] [0] [] fun HM HS => ?_
 refine ap HF (fun _ => HS) [0, 4] #[true, false, false, false, true, false, false, false, false, false] [(21, vP g 0), (17, vP g 0)] fun a HF => ?_
 refine ay HF HS 1 rfl rfl rfl (v := vP g 0) (Yl.nilCheck rfl rfl) fun a HF => ?_
 refine ap HF (fun _ => HS) [2] #[true, true, true, false, true, false, false, false, false, false] [(19, vP g 1)] fun a HF => ?_
 refine ay HF HS 3 rfl rfl rfl (v := vI p) (Yl.qi rfl rfl (by kernel_rfl) (fun _ h => h.zb hg rfl)) fun a HF => ?_
 refine ay HF HS 5 rfl rfl rfl (v := vP g 0) (Yl.nilCheck rfl rfl) fun a HF => ?_
 refine ap HF (fun _ => HS) [6] #[true, true, true, true, true, true, true, false, false, false] [(23, vP g 2)] fun a HF => ?_
 refine ay HF HS 7 rfl rfl rfl (v := .slice A l.length c) (Yl.qi rfl rfl (by kernel_rfl) (fun _ h => h.zb hg rfl)) fun a HF => ?_
 refine ay HF HS 8 rfl rfl rfl (Yl.len rfl rfl (by kernel_rfl)) fun a HF => ?_
 refine ap HF (fun _ => HS) [9] #[true, true, true, true, true, true, true, true, true, true] [(26, .bool ((p : Int) == (l.length : Int)))] fun a HF => ?_
 refine qm (by kernel_rfl) ?_
 rcases HF.tf 26 rfl with ⟨hb26, HF⟩ | ⟨hb26, HF⟩
 ·
  have hd26 := eq_of_beq hb26
  have hpl : p = l.length := by omega
  have hz : nextR l p = (Bk.zero, 0, 6) := if_pos hpl
  refine qf HF rfl (wp_seq (qa ?_))
  refine fy HF HM 0 rfl rfl rfl (v := .agg #[vB 0, vB 0, vI 0, vI 0, .slice none 0 0]) (Yl.build (vs := []) rfl (by kernel_rfl) (by kernel_rfl)) fun a HF => ?_
  refine fo HF 1 rfl rfl ?_
  refine e_sa HF HM 0 rfl rfl rfl rfl rfl si_bk rfl rfl (by simp [Value.oneCell']) ?_
  clear HM; intro w4_1 HM
  refine fp HF 1 2 [(3, vI 6)] fun a HF => ?_
  refine qb rfl (wp_ret ?_)
  exact ret2 rfl HF (.cellS (i := 0) HF HM rfl rfl si_bk rfl) (.tmp HF rfl) (by have HM := HW.join HM; exact qkh (b := Bk.zero) (A' := none) (c' := 0) hz rfl (Nat.le_refl _) (Mem.nil (Mem.skip HM) _ _))
 have hd26 := ne_of_beq_false hb26
 have hpl : p ≠ l.length := by omega
 obtain ⟨b, m, er, hq⟩ : ∃ b m er, readB (l.drop p) = (b, m, er) := ⟨_, _, _, rfl⟩
 have hz : nextR l p = (b, m, er) := (if_neg hpl).trans hq
 have hpm := qqj hl hp hz
 refine qe HF rfl (wp_skip ?_)
 refine qa7 (fun aS wS => ∃ (A38 : Option Addr) (c38 : Nat) (g4 : Nat), Fr aS 52 [] [(6, vI er), (5, vI m), (4, vP g4 0), (26, .bool false), (15, .bool false), (3, vI 0), (2, vP g2 0), (0, vP g 0)] ∧ Mem w wS [.blk g4 (b.cells A38 c38) 41, .row (.slice A38 b.evs.length c38) b.evs.length (b.evs.flatMap evL) 45 11, .blk g2 #[vB 0, vB 0, vI 0, vI 0, .slice none 0 0] 41] ∧ (b.evs.length ≤ c38)) ?_ ?_
 ·
  refine qan HM [.blk g2 #[vB 0, vB 0, vI 0, vI 0, .slice none 0 0] 41] [0] [15] fun HM HS => ?_
  refine ap HF (fun _ => HS) [0, 4] #[true, false, false, false, true, false, false, false, false, false, false, false, false, false, false, false, false, false] [(33, vP g 0), (29, vP g 0)] fun a HF => ?_
  refine ay HF HS 1 rfl rfl rfl (v := vP g 0) (Yl.nilCheck rfl rfl) fun a HF => ?_
  refine ap HF (fun _ => HS) [2] #[true, true, true, false, true, false, false, false, false, false, false, false, false, false, false, false, false, false] [(31, vP g 2)] fun a HF => ?_
  refine ay HF HS 3 rfl rfl rfl (v := .slice A l.length c) (Yl.qi rfl rfl (by kernel_rfl) (fun _ h => h.zb hg rfl)) fun a HF => ?_
  refine ay HF HS 5 rfl rfl rfl (v := vP g 0) (Yl.nilCheck rfl rfl) fun a HF => ?_
  refine ap HF (fun _ => HS) [6] #[true, true, true, true, true, true, true, false, false, false, false, false, false, false, false, false, false, false] [(35, vP g 1)] fun a HF => ?_
  refine ay HF HS 7 rfl rfl rfl (v := vI p) (Yl.qi rfl rfl (by kernel_rfl) (fun _ h => h.zb hg rfl)) fun a HF => ?_
  refine ay HF HS 8 rfl rfl rfl (v := .slice (if c = p then A else A.map (·.add (p * 1))) (l.length - p) (c - p)) (Yl.sliceFrom ei_u8 (j := p) rfl rfl rfl (by omega)) fun a HF => ?_
  refine qj [9, 14] (by kernel_rfl) rfl ?_
  refine all_cons ?_ ?_
  ·refine ql HF (i := 9) rfl rfl ?_
   refine e_cl HF [.slice (if c = p then A else A.map (·.add (p * 1))) (l.length - p) (c - p)] rfl rfl (qin (if c = p then A else A.map (·.add (p * 1))) (l.length - p) (c - p) (l.drop p) B _ (hL.mem HM hB) (HM.le hB) (HM.old (hrA.qms hp hc)) (by omega) (by rw [List.length_drop]) (by omega) (qa1 hl p) hq) ?_
   rintro _ w38 ⟨⟨A38, c38, rfl, ho, hc38⟩, hbw⟩
   refine ⟨_, rfl, ?_⟩
   replace HM := HM.callRow hbw ho
   clear HF; intro a HF
   refine keepS (HM.picks [1] (by decide) rfl) (fun HS => ?_)
   refine ap HF (fun _ => HS) [10, 11, 12, 13] #[true, true, true, true, true, true, true, true, true, true, true, true, true, true, false, false, false, false] [(41, vI er), (40, vI m), (39, .agg (b.cells A38 c38))] fun a HF => ?_
   refine qj [14] (by kernel_rfl) rfl ?_
   refine all_cons ?_ all_nil
   refine ql HF (i := 14) rfl rfl ?_
   refine qr HF HM (cs := #[vB 0, vB 0, vI 0, vI 0, .slice none 0 0]) rfl (by kernel_rfl) rfl (by decide) ?_
   clear HF HM; intro a w4 g4 HF HM
   refine keepS (HM.picks [2] (by decide) rfl) (fun HS => ?_)
   refine qj [15] (by kernel_rfl) rfl ?_
   refine all_cons ?_ all_nil
   refine ql HF (i := 15) rfl rfl ?_
   refine e_sa HF HM 0 rfl rfl rfl rfl rfl si_bk rfl rfl (qce _ _ _) ?_
   clear HM; intro w5_15 HM
   refine noS (by kernel_rfl) ?_
   refine ap HF (pastS (by kernel_rfl)) [16, 17] #[true, true, true, true, true, true, true, true, true, true, true, true, true, true, true, true, true, true] [(6, vI er), (5, vI m)] fun a HF => ?_
   refine qm (by kernel_rfl) ?_
   exact ⟨A38, c38, g4, HF.sub (by kernel_rfl), HM.picks [0, 1, 2] (by decide) rfl, hc38⟩
  refine all_cons ?_ all_nil
  refine ql HF (i := 14) rfl rfl ?_
  refine qr HF HM (cs := #[vB 0, vB 0, vI 0, vI 0, .slice none 0 0]) rfl (by kernel_rfl) rfl (by decide) ?_
  clear HF HM; intro a w4 g4 HF HM
  refine keepS (HM.picks [1] (by decide) rfl) (fun HS => ?_)
  refine qj [9] (by kernel_rfl) rfl ?_
  refine all_cons ?_ all_nil
  refine ql HF (i := 9) rfl rfl ?_
  refine e_cl HF [.slice (if c = p then A else A.map (·.add (p * 1))) (l.length - p) (c - p)] rfl rfl (qin (if c = p then A else A.map (·.add (p * 1))) (l.length - p) (c - p) (l.drop p) B _ (hL.mem HM hB) (HM.le hB) (HM.old (hrA.qms hp hc)) (by omega) (by rw [List.length_drop]) (by omega) (qa1 hl p) hq) ?_
  rintro _ w38 ⟨⟨A38, c38, rfl, ho, hc38⟩, hbw⟩
  refine ⟨_, rfl, ?_⟩
  replace HM := HM.callRow hbw ho
  clear HF; intro a HF
  refine keepS (HM.picks [2] (by decide) rfl) (fun HS => ?_)
  refine ap HF (fun _ => HS) [10, 11, 12, 13] #[true, true, true, true, true, true, true, true, true, true, true, true, true, true, true, false, false, false] [(41, vI er), (40, vI m), (39, .agg (b.cells A38 c38))] fun a HF => ?_
  refine qj [15] (by kernel_rfl) rfl ?_
  refine all_cons ?_ all_nil
  refine ql HF (i := 15) rfl rfl ?_
  refine e_sa HF HM 1 rfl rfl rfl rfl rfl si_bk rfl rfl (qce _ _ _) ?_
  clear HM; intro w5_15 HM
  refine noS (by kernel_rfl) ?_
  refine ap HF (pastS (by kernel_rfl)) [16, 17] #[true, true, true, true, true, true, true, true, true, true, true, true, true, true, true, true, true, true] [(6, vI er), (5, vI m)] fun a HF => ?_
  refine qm (by kernel_rfl) ?_
  exact ⟨A38, c38, g4, HF.sub (by kernel_rfl), HM.picks [1, 0, 2] (by decide) rfl, hc38⟩
 clear HF HM; rintro a w5 ⟨A38, c38, g4, HF, HM, hc38⟩
 skip
 ·
  replace HM : Mem W _ (.blk g4 (b.cells A38 c38) 41 :: .row (.slice A38 b.evs.length c38) b.evs.length (b.evs.flatMap evL) 45 11 :: .blk g2 #[vB 0, vB 0, vI 0, vI 0, .slice none 0 0] 41 :: .blk g #[.bool true, vI p, .slice A l.length c] 108 :: .row (.slice A l.length c) l.length (l.map B8) 5 1 :: fs) := HW.join HM
  refine wp_seq (qa ?_)
  refine fp HF 1 0 [(42, vP g 0)] fun a HF => ?_
  refine fy HF HM 1 rfl rfl rfl (v := vP g 0) (Yl.nilCheck rfl rfl) fun a HF => ?_
  refine fp HF 1 2 [(44, vP g 1)] fun a HF => ?_
  refine fy HF HM 3 rfl rfl rfl (Yl.qi rfl rfl (by kernel_rfl) (fun _ h => h.cell (i := 3) rfl rfl)) fun a HF => ?_
  refine fp HF 2 4 [(47, vI (IntKind.i64.wrap ((p : Int) + (m : Int))))] fun a HF => ?_
  replace HF := HF.sp 47 (vI (p + m : Nat)) rfl (qp (by omega) (by omega))
  refine fy HF HM 6 rfl rfl rfl (v := vP g 0) (Yl.nilCheck rfl rfl) fun a HF => ?_
  refine fp HF 1 7 [(49, vP g 1)] fun a HF => ?_
  refine fo HF 8 rfl rfl ?_
  refine za HF HM (i := 3) (cs := #[.bool true, vI p, .slice A l.length c]) rfl rfl rfl rfl (by kernel_rfl) rfl rfl (by simp) ?_
  clear HM; intro w6_8 HM
  refine qb rfl (wp_seq (qa ?_))
  refine fy HF HM 0 rfl rfl rfl (v := .agg (b.cells A38 c38)) (Yl.zt rfl rfl si_bk rfl (fun _ h => qd (h.blk (i := 0) rfl))) fun a HF => ?_
  refine fp HF 1 1 [(51, vI er)] fun a HF => ?_
  refine fo HF 2 rfl rfl ?_
  refine e_sa HF HM 2 rfl rfl rfl rfl rfl si_bk rfl rfl (qce _ _ _) ?_
  clear HM; intro w7_2 HM
  refine fp HF 1 3 [(3, vI er)] fun a HF => ?_
  refine qb rfl (wp_ret ?_)
  exact ret2 rfl HF (.cellS (i := 2) HF HM rfl rfl si_bk rfl) (.tmp HF rfl) (qkh hz rfl hc38 (HM.picksT 5 [1, 3, 4] (by decide) (by decide) rfl))
theorem qmr (lim : Int) (w : World) (h : 1 ≤ lim ∧ lim ≤ 4096) : Calls Tryd.prog 14 #[.int .i64 lim] w fun r w' => ∃ g, r = .returned (.tuple #[.pointer (some ⟨g, 0, none⟩), .int .i64 0]) ∧ Mem w w' [.blk g #[.int .i64 lim, .slice none 0 0] 95] :=
 (qko lim (by unfold I64; omega) w).mono fun r w' h1 => by
  rcases h1 with ⟨h2, _⟩ | ⟨_, h2⟩
  ·omega
  ·exact h2
theorem qft (W w : World) (g : Nat) (lim : Int) (A : Option Addr) (c : Nat) (out : List Nat) (fs : List Fact) (HW : Mem W w (.blk g #[.int .i64 lim, .slice A out.length c] 95 :: .row (.slice A out.length c) out.length (out.map B8) 5 1 :: fs)) (hc : out.length ≤ c) (hout : out.length ≤ 524288) (hlim : lim ≠ 0) (next : Int) (hnx : I64 next) (B : Nat) (hL : LaidX B w) (hBW : B ≤ W.heap.size) {o2 : List Nat} {we : Nat} (h : zg out [endB next] = (o2, we)) :
  Calls Tryd.prog 15 #[.pointer (some ⟨g, 0, none⟩), .int .i64 next] w (WrIs W 95 g lim o2 fs (.int .i64 (we : Int))) := by
 have h1 := qq0 W w g lim A c out fs HW hc hout hlim next hnx B hL hBW
 rw [h] at h1
 exact h1
theorem qsy (W w : World) (g : Nat) (lim : Int) (A : Option Addr) (c : Nat) (out : List Nat) (fs : List Fact) (HW : Mem W w (.blk g #[.int .i64 lim, .slice A out.length c] 95 :: .row (.slice A out.length c) out.length (out.map B8) 5 1 :: fs)) (hc : out.length ≤ c) (hout : out.length ≤ 524288) (hlim : lim ≠ 0) (hlm : I64 lim) (cpu : Nat) (hcpu : cpu < 256) (A2 : Option Addr) (c2 : Nat) (l : List It) (opn : Int) (hok : ∀ x ∈ l, x.Ok) (ho : I64 opn) (B : Nat) (hL : LaidX B w) (hBW : B ≤ W.heap.size) (hr : Rd w w.heap.size 12 A2 l.length (l.flatMap itL)) (hc2 : l.length ≤ c2) (hn : l.length ≤ 999999) {o2 : List Nat} {k we : Nat} (h : putW out lim cpu l opn = (o2, k, we)) :
  Calls Tryd.prog 17 #[.pointer (some ⟨g, 0, none⟩), .int .u8 (cpu : Int), .slice A2 l.length c2, .int .i64 opn] w (WrIs W 95 g lim o2 fs (.tuple #[.int .i64 (k : Int), .int .i64 (we : Int)])) := by
 have h1 := qqz W w g lim A c out fs HW hc hout hlim hlm cpu hcpu A2 c2 l opn hok ho B hL hBW hr hc2 hn
 rw [h] at h1
 exact h1
theorem qiw (g : Nat) (lim : Int) (A : Option Addr) (c : Nat) (out : List Nat) (w : World) (hg : w.heap[g]? = some (.cells #[.int .i64 lim, .slice A out.length c] 95 (0, 0))) (hlim : lim ≠ 0) {n : Nat} (h : out.length = n) :
  Calls Tryd.prog 18 #[.pointer (some ⟨g, 0, none⟩)] w (Is w (.int .i64 (n : Int))) := by
 have h1 := qq1 g lim A c out w hg hlim
 rw [h] at h1
 exact h1
theorem qkr (W w : World) (g p : Nat) (A : Option Addr) (c : Nat) (l : List Nat) (fs : List Fact) (HW : Mem W w (.blk g #[.bool true, .int .i64 (p : Int), .slice A l.length c] 108 :: .row (.slice A l.length c) l.length (l.map B8) 5 1 :: fs)) (hp : p ≤ l.length) (hc : l.length ≤ c) (hl : ∀ b ∈ l, b < 256) (hn : l.length ≤ 100000000) (B : Nat) (hL : LaidX B w) (hBW : B ≤ W.heap.size) {b : Bk} {m er : Nat} (h : nextR l p = (b, m, er)) {p2 : Nat} (h2 : p + m = p2 := by rfl) :
  Calls Tryd.prog 26 #[.pointer (some ⟨g, 0, none⟩)] w fun r w' => ∃ A' c', r = .returned (.tuple #[.agg (b.cells A' c'), .int .i64 (er : Int)]) ∧ b.evs.length ≤ c' ∧ Mem W w' (.row (.slice A' b.evs.length c') b.evs.length (b.evs.flatMap evL) 45 11 :: .blk g #[.bool true, .int .i64 ((p2 : Nat) : Int), .slice A l.length c] 108 :: .row (.slice A l.length c) l.length (l.map B8) 5 1 :: fs) := by
 have h1 := qnz W w g p A c l fs HW hp hc hl hn B hL hBW
 subst h2
 rw [h] at h1
 exact h1
theorem qv9 (A : Option Addr) (n c : Nat) (l : List Nat) (B : Nat) (w : World) (hL : LaidX B w) (hB : B ≤ w.heap.size) (hr : Rd w w.heap.size 1 A n (l.map B8)) (hc : n ≤ c) (hl : ∀ b ∈ l, b < 256) (hln : l.length = n) (hn : n ≤ 100000000) {bs : List Bk} {p er : Nat} (h : qfm l = (bs, p, er)) :
  Calls Tryd.prog 22 #[.slice A n c] w (Is w (.tuple #[.int .i64 (bs.length : Int), .int .i64 (p : Int), .int .i64 (er : Int)])) := by
 subst hln
 have h1 := qu5 A c l B w hL hB hr hc hl hn
 rw [h] at h1
 exact h1
theorem qep (w : World) : Calls Tryd.prog 32 #[] w fun r w' => ∃ g, r = .returned (.slice (some ⟨g, 0, none⟩) 2 2) ∧ w'.ownsRow w.heap.size 47 12 (.slice (some ⟨g, 0, none⟩) 2 2) 2 (exI.flatMap itL) ∧ Below w.heap.size w w' := by
 refine qg (vs := []) Tryd.func32 rfl rfl (by kernel_rfl) (σ0 := []) rfl ?_
 intro a HF
 have HM := Mem.start w
 refine wp_seq (qa ?_)
 refine fp HF 1 0 [(0, .slice none 0 0)] fun a HF => ?_
 refine qb rfl (wp_seq (qa ?_))
 refine fy HF HM 0 rfl rfl rfl (v := .agg #[vI 5, vI 340, vB 2, vB 5, vI 0, vI 0, vI 0, vI 0, vI 40, vQ 0, vI 7]) (Yl.build (vs := [(0, vI 5), (1, vI 340), (2, vB 2), (3, vB 5), (8, vI 40), (10, vI 7)]) rfl (by kernel_rfl) (by kernel_rfl)) fun a HF => ?_
 refine fy HF HM 1 rfl rfl rfl (v := .agg #[vI 5, vI 340, vB 2, vB 5, vI 0, vI 0, vI 0, vI 0, vI 40, vQ 0, vI 7, vI 3]) (Yl.build (vs := [(0, .agg #[vI 5, vI 340, vB 2, vB 5, vI 0, vI 0, vI 0, vI 0, vI 40, vQ 0, vI 7]), (1, vI 3)]) rfl (by kernel_rfl) (by kernel_rfl)) fun a HF => ?_
 refine fy HF HM 2 rfl rfl rfl (v := .agg #[vI 9, vI 340, vB 2, vB 6, vI 0, vI 0, vI 0, vI 0, vI 0, vQ 0, vI 0]) (Yl.build (vs := [(0, vI 9), (1, vI 340), (2, vB 2), (3, vB 6)]) rfl (by kernel_rfl) (by kernel_rfl)) fun a HF => ?_
 refine fy HF HM 3 rfl rfl rfl (v := .agg #[vI 9, vI 340, vB 2, vB 6, vI 0, vI 0, vI 0, vI 0, vI 0, vQ 0, vI 0, vI 0]) (Yl.build (vs := [(0, .agg #[vI 9, vI 340, vB 2, vB 6, vI 0, vI 0, vI 0, vI 0, vI 0, vQ 0, vI 0])]) rfl (by kernel_rfl) (by kernel_rfl)) fun a HF => ?_
 refine fo HF 4 rfl rfl ?_
 refine qad HF HM (vs := [(0, .agg #[vI 5, vI 340, vB 2, vB 5, vI 0, vI 0, vI 0, vI 0, vI 40, vQ 0, vI 7, vI 3]), (1, .agg #[vI 9, vI 340, vB 2, vB 6, vI 0, vI 0, vI 0, vI 0, vI 0, vQ 0, vI 0, vI 0])]) (cs := #[vI 5, vI 340, vB 2, vB 5, vI 0, vI 0, vI 0, vI 0, vI 40, vQ 0, vI 7, vI 3, vI 9, vI 340, vB 2, vB 6, vI 0, vI 0, vI 0, vI 0, vI 0, vQ 0, vI 0, vI 0]) rfl ei_it (by decide) rfl (by kernel_rfl) rfl (by decide) ?_
 clear HF HM; intro a w5 g5 HF HM
 refine fp HF 1 5 [(0, vS g5 2 2)] fun a HF => ?_
 refine qb rfl (wp_ret ?_)
 exact ret1 rfl HF (.tmp HF rfl) (⟨g5, rfl, (HM.blkRow (i := 0) (n := 2) (size := 12) rfl rfl (by decide)).own (i := 0) rfl, HM.below⟩)
theorem qn0 (B : Nat) (w : World) (hL : LaidX B w) (hB : B ≤ w.heap.size) : Calls Tryd.prog 10 #[] w (Is w (.bool true)) := by
 refine qg (vs := []) Tryd.func10 rfl rfl (by kernel_rfl) (σ0 := []) rfl ?_
 intro a HF
 have HM := Mem.start w
 refine wp_seq (qa ?_)
 refine fp HF 1 0 [(0, .bool false)] fun a HF => ?_
 refine qb rfl (wp_seq (qa ?_))
 refine fo HF 0 rfl rfl ?_
 refine e_cl HF [] rfl rfl (qep _) ?_
 rintro _ w20 ⟨g20, rfl, ho, hbw⟩
 refine ⟨_, rfl, ?_⟩
 replace HM := HM.callRow hbw ho
 clear HF; intro a HF
 refine fo HF 1 rfl rfl ?_
 refine e_cl HF [vB 2, vS g20 2 2, vI 2, vI 1] rfl rfl (qcw 2 (by decide) (some ⟨g20, 0, none⟩) 2 2 exI 2 1 qtl (by unfold I64; decide) (by unfold I64; decide) B _ (hL.mem HM hB) (HM.le hB) (HM.rd (i := 0) rfl) (by decide) rfl (by decide) sa1) ?_
 rintro _ w21 ⟨A21, c21, q21, rfl, hq21, hc21, hm⟩
 obtain ⟨x1, x2, rfl, hex1, hex2⟩ := map2 hq21
 refine ⟨_, rfl, ?_⟩
 replace HM := HM.callRow hm.below (hm.own (i := 0) rfl)
 clear HF; intro a HF
 refine fp HF 5 2 [(2, vI 0), (1, .slice A21 2 c21)] fun a HF => ?_
 refine qb rfl (wp_seq (qa ?_))
 refine fo HF 0 rfl rfl ?_
 refine e_cl HF [] rfl rfl (qep _) ?_
 rintro _ w25 ⟨g25, rfl, ho, hbw⟩
 refine ⟨_, rfl, ?_⟩
 replace HM := HM.callRow hbw ho
 clear HF; intro a HF
 refine fo HF 1 rfl rfl ?_
 refine e_cl HF [vB 2, vS g25 2 2, vI 2, vI 2] rfl rfl (qcw 2 (by decide) (some ⟨g25, 0, none⟩) 2 2 exI 2 2 qtl (by unfold I64; decide) (by unfold I64; decide) B _ (hL.mem HM hB) (HM.le hB) (HM.rd (i := 0) rfl) (by decide) rfl (by decide) sa2) ?_
 rintro _ w26 ⟨A26, c26, q26, rfl, hq26, hc26, hm⟩
 obtain ⟨x3, rfl, hex3⟩ := map1 hq26
 refine ⟨_, rfl, ?_⟩
 replace HM := HM.callRow hm.below (hm.own (i := 0) rfl)
 clear HF; intro a HF
 refine fp HF 5 2 [(4, vI 0), (3, .slice A26 1 c26)] fun a HF => ?_
 refine qb rfl (wp_seq (qa ?_))
 refine fo HF 0 rfl rfl ?_
 refine e_cl HF [vB 2, .slice none 0 0, vI 0, vI 1] rfl rfl (qcw 2 (by decide) none 0 0 [] 0 1 (by intro x hx; cases hx) (by unfold I64; decide) (by unfold I64; decide) B _ (hL.mem HM hB) (HM.le hB) (Rd.nil) (by decide) rfl (by decide) sa3) ?_
 rintro _ w30 ⟨A30, c30, q30, rfl, hq30, hc30, hm⟩
 obtain rfl := List.map_eq_nil_iff.1 hq30
 refine ⟨_, rfl, ?_⟩
 replace HM := HM.callRow hm.below (hm.own (i := 0) rfl)
 clear HF; intro a HF
 refine fp HF 5 1 [(6, vI 0), (5, .slice A30 0 c30)] fun a HF => ?_
 refine qb rfl (wp_seq (qa ?_))
 refine fo HF 0 rfl rfl ?_
 refine e_cl HF [vB 2, .slice none 0 0, vI 2, vI 1] rfl rfl (qcw 2 (by decide) none 0 0 [] 2 1 (by intro x hx; cases hx) (by unfold I64; decide) (by unfold I64; decide) B _ (hL.mem HM hB) (HM.le hB) (Rd.nil) (by decide) rfl (by decide) sa4) ?_
 rintro _ w34 ⟨A34, c34, q34, rfl, hq34, hc34, hm⟩
 obtain ⟨x4, rfl, hex4⟩ := map1 hq34
 refine ⟨_, rfl, ?_⟩
 replace HM := HM.callRow hm.below (hm.own (i := 0) rfl)
 clear HF; intro a HF
 refine fp HF 5 1 [(8, vI 0), (7, .slice A34 1 c34)] fun a HF => ?_
 refine qb rfl (wp_seq (wp_seq (qa ?_)))
 refine fp HF 10 0 [(46, .slice A21 2 c21), (45, .bool false)] fun a HF => ?_
 refine fy HF HM 10 rfl rfl rfl (Yl.len rfl rfl (by kernel_rfl)) fun a HF => ?_
 refine fp HF 4 11 [(51, .slice A21 2 c21), (50, .bool false)] fun a HF => ?_
 obtain ⟨gA21, rfl⟩ := qa0 (HM.own (i := 4) rfl) (Nat.lt_of_le_of_lt (Nat.zero_le _) (show 0 < 2 from by decide))
 refine fy HF HM 15 rfl rfl rfl (v := vP gA21 0) (Yl.indexAddr (ad := ⟨gA21, 0, none⟩) (y := 0) (sz := 5) rfl rfl rfl (by decide) (by kernel_rfl)) fun a HF => ?_
 refine fp HF 1 16 [(53, vP gA21 2)] fun a HF => ?_
 refine fy HF HM 17 rfl rfl rfl (v := vI x1.b.lost) (Yl.qi rfl rfl (by kernel_rfl) (fun _ h => h.qd3 qe9 (i := 4) rfl (k := 0) (off := 2) (x := x1) (rfl) rfl)) fun a HF => ?_
 replace HF := HF.sp 54 (vI 3) rfl (by rw [hex1])
 refine fp HF 4 18 [(58, vS gA21 2 c21), (57, .bool false)] fun a HF => ?_
 refine fy HF HM 22 rfl rfl rfl (v := vP gA21 5) (Yl.indexAddr (ad := ⟨gA21, 0, none⟩) (y := 1) (sz := 5) rfl rfl rfl (by decide) (by kernel_rfl)) fun a HF => ?_
 refine fp HF 1 23 [(60, vP gA21 7)] fun a HF => ?_
 refine fy HF HM 24 rfl rfl rfl (v := vI x2.b.lost) (Yl.qi rfl rfl (by kernel_rfl) (fun _ h => h.qd3 qe9 (i := 4) rfl (k := 1) (off := 2) (x := x2) (rfl) rfl)) fun a HF => ?_
 replace HF := HF.sp 61 (vI 2) rfl (by rw [hex2])
 refine fp HF 4 25 [(65, .slice A26 1 c26), (64, .bool false)] fun a HF => ?_
 refine fy HF HM 29 rfl rfl rfl (Yl.len rfl rfl (by kernel_rfl)) fun a HF => ?_
 refine fp HF 4 30 [(70, .slice A26 1 c26), (69, .bool false)] fun a HF => ?_
 obtain ⟨gA26, rfl⟩ := qa0 (HM.own (i := 2) rfl) (Nat.lt_of_le_of_lt (Nat.zero_le _) (show 0 < 1 from by decide))
 refine fy HF HM 34 rfl rfl rfl (v := vP gA26 0) (Yl.indexAddr (ad := ⟨gA26, 0, none⟩) (y := 0) (sz := 5) rfl rfl rfl (by decide) (by kernel_rfl)) fun a HF => ?_
 refine fp HF 1 35 [(72, vP gA26 2)] fun a HF => ?_
 refine fy HF HM 36 rfl rfl rfl (v := vI x3.b.lost) (Yl.qi rfl rfl (by kernel_rfl) (fun _ h => h.qd3 qe9 (i := 2) rfl (k := 0) (off := 2) (x := x3) (rfl) rfl)) fun a HF => ?_
 replace HF := HF.sp 73 (vI 5) rfl (by rw [hex3])
 refine fp HF 4 37 [(77, vS gA26 1 c26), (76, .bool false)] fun a HF => ?_
 refine fy HF HM 41 rfl rfl rfl (v := vP gA26 0) (Yl.indexAddr (ad := ⟨gA26, 0, none⟩) (y := 0) (sz := 5) rfl rfl rfl (by decide) (by kernel_rfl)) fun a HF => ?_
 refine fp HF 1 42 [(79, vP gA26 4)] fun a HF => ?_
 refine fy HF HM 43 rfl rfl rfl (v := .slice x3.A x3.b.evs.length x3.c) (Yl.qi rfl rfl (by kernel_rfl) (fun _ h => h.qd3 qe9 (i := 2) rfl (k := 0) (off := 4) (x := x3) (rfl) rfl)) fun a HF => ?_
 replace HF := HF.sp 80 (.slice x3.A 2 x3.c) rfl (by rw [hex3]; rfl)
 refine fy HF HM 44 rfl rfl rfl (Yl.len rfl rfl (by kernel_rfl)) fun a HF => ?_
 refine fp HF 4 45 [(85, .slice A30 0 c30), (84, .bool false)] fun a HF => ?_
 refine fy HF HM 49 rfl rfl rfl (Yl.len rfl rfl (by kernel_rfl)) fun a HF => ?_
 refine fp HF 4 50 [(90, .slice A34 1 c34), (89, .bool false)] fun a HF => ?_
 refine fy HF HM 54 rfl rfl rfl (Yl.len rfl rfl (by kernel_rfl)) fun a HF => ?_
 refine fp HF 4 55 [(95, .slice A34 1 c34), (94, .bool false)] fun a HF => ?_
 obtain ⟨gA34, rfl⟩ := qa0 (HM.own (i := 0) rfl) (Nat.lt_of_le_of_lt (Nat.zero_le _) (show 0 < 1 from by decide))
 refine fy HF HM 59 rfl rfl rfl (v := vP gA34 0) (Yl.indexAddr (ad := ⟨gA34, 0, none⟩) (y := 0) (sz := 5) rfl rfl rfl (by decide) (by kernel_rfl)) fun a HF => ?_
 refine fp HF 1 60 [(97, vP gA34 2)] fun a HF => ?_
 refine fy HF HM 61 rfl rfl rfl (v := vI x4.b.lost) (Yl.qi rfl rfl (by kernel_rfl) (fun _ h => h.qd3 qe9 (i := 0) rfl (k := 0) (off := 2) (x := x4) (rfl) rfl)) fun a HF => ?_
 replace HF := HF.sp 98 (vI 2) rfl (by rw [hex4])
 refine fp HF 2 62 [(100, .bool false)] fun a HF => ?_
 refine qb rfl ?_
 replace HF := HF.to [(100, .bool false), (0, .bool false)]
 refine qe HF rfl (wp_skip (wp_seq (qa ?_)))
 refine fo HF 0 rfl rfl ?_
 refine e_cl HF [vI 9] rfl rfl (qmr 9 _ (by decide)) ?_
 rintro _ w102 ⟨gw102, rfl, hm⟩
 refine ⟨_, rfl, ?_⟩
 replace HM := (HM.join hm).nil 5 1
 clear HF; intro a HF
 refine fp HF 5 1 [(10, vI 0), (9, vP gw102 0)] fun a HF => ?_
 refine qb rfl (wp_seq (wp_seq (qa ?_)))
 refine fp HF 4 0 [(108, vP gw102 0), (107, .bool false)] fun a HF => ?_
 refine fy HF HM 4 rfl rfl rfl (v := .bool false) (Yl.qkw rfl rfl rfl) fun a HF => ?_
 refine fp HF 3 5 [(112, vP gw102 0), (111, .bool false)] fun a HF => ?_
 refine fo HF 8 rfl rfl ?_
 refine e_cl HF [vP gw102 0, vI 0] rfl rfl (qft _ _ gw102 9 none 0 [] _ (HM.picks [1, 0, 2, 3, 4, 5, 6, 7] (by decide) rfl) (by first | exact Nat.le_refl _ | omega | exact Nat.zero_le _) (by first | decide | omega) (by decide) 0 (by unfold I64; decide) B (hL.mem HM hB) hB sa5) ?_
 rintro _ w113 ⟨rfl, A113, c113, hc113, HM2⟩
 refine ⟨_, rfl, ?_⟩
 replace HM := HM2
 clear HF; intro a HF
 refine fp HF 4 9 [(117, vP gw102 0), (116, .bool false)] fun a HF => ?_
 refine fo HF 13 rfl rfl ?_
 refine e_cl HF [vP gw102 0, vI 7] rfl rfl (qft _ _ gw102 9 A113 c113 [] _ (HM.picks [0, 1, 2, 3, 4, 5, 6, 7] (by decide) rfl) (by first | exact Nat.le_refl _ | omega | exact Nat.zero_le _) (by first | decide | omega) (by decide) 7 (by unfold I64; decide) B (hL.mem HM hB) hB sa6) ?_
 rintro _ w118 ⟨rfl, A118, c118, hc118, HM2⟩
 refine ⟨_, rfl, ?_⟩
 replace HM := HM2
 clear HF; intro a HF
 refine fp HF 4 14 [(122, vP gw102 0), (121, .bool false)] fun a HF => ?_
 refine fo HF 18 rfl rfl ?_
 refine e_cl HF [vP gw102 0] rfl rfl (qiw gw102 9 A118 c118 awX _ (HM.blk (i := 0) rfl) (by decide) rfl) ?_
 rintro _ w123 ⟨rfl, hbw⟩
 refine ⟨_, rfl, ?_⟩
 replace HM := HM.call hbw
 clear HF; intro a HF
 refine fp HF 2 19 [(125, .bool false)] fun a HF => ?_
 refine qb rfl (qe HF rfl (wp_skip (wp_seq (qa ?_))))
 refine fp HF 1 0 [(127, vP gw102 0)] fun a HF => ?_
 refine fo HF 1 rfl rfl ?_
 refine e_cl HF [vP gw102 0] rfl rfl (qcx gw102 9 A118 c118 awX _ (HM.blk (i := 0) rfl) (HM.rd (i := 1) rfl) (by first | decide | omega) (by decide)) ?_
 rintro _ w128 ⟨⟨A128, c128, rfl, ho, hc128⟩, hbw⟩
 refine ⟨_, rfl, ?_⟩
 replace HM := HM.callRow hbw ho
 clear HF; intro a HF
 refine fo HF 2 rfl rfl ?_
 refine qad HF HM (vs := [(0, vB 1)]) (cs := #[vB 1]) rfl ei_u8 (by decide) rfl (by kernel_rfl) rfl (by decide) ?_
 clear HF HM; intro a w129 g129 HF HM
 refine fo HF 3 rfl rfl ?_
 refine zo HF HM (i := 1) rfl ei_u8 rfl rfl rfl (news := ([1].map B8)) (HM.rdBlk (i := 0) (n := 1) (size := 1) rfl rfl) (qfj _) (by decide) (by decide) rfl (by decide) ?_
 clear HF HM; intro a w130 A130 c130 HF HM hc130
 rw [show (awX.map B8) ++ ([1].map B8) = (awX ++ [1]).map B8 from by rw [List.map_append]] at HM
 refine fo HF 4 rfl rfl ?_
 refine e_is HF HM [.slice A130 14 c130] (.tuple #[vI 1, vI 13, vI 100]) rfl rfl (qv9 A130 14 c130 (awX ++ [1]) B _ (hL.mem HM hB) (HM.le hB) (HM.rd (i := 1) rfl) hc130 qu7 rfl (by decide) sa7) fun w131 hbw HM a HF => ?_
 refine fp HF 7 5 [(13, vI 100), (12, vI 13), (11, vI 1)] fun a HF => ?_
 refine qb rfl (wp_seq (qa ?_))
 refine fp HF 1 0 [(135, vP gw102 0)] fun a HF => ?_
 refine fo HF 1 rfl rfl ?_
 refine e_cl HF [vP gw102 0] rfl rfl (qcx gw102 9 A118 c118 awX _ (HM.blk (i := 2) rfl) (HM.rd (i := 3) rfl) (by first | decide | omega) (by decide)) ?_
 rintro _ w136 ⟨⟨A136, c136, rfl, ho, hc136⟩, hbw⟩
 refine ⟨_, rfl, ?_⟩
 replace HM := HM.callRow hbw ho
 clear HF; intro a HF
 refine fo HF 2 rfl rfl ?_
 refine e_cl HF [.slice A136 awX.length c136] rfl rfl (qny A136 c136 awX _ (HM.rd (i := 0) rfl) (by decide)) ?_
 rintro _ w137 ⟨g137, A137, c137, rfl, hc137, hm⟩
 refine ⟨_, rfl, ?_⟩
 replace HM := HM.join hm
 clear HF; intro a HF
 refine fp HF 1 3 [(14, vP g137 0)] fun a HF => ?_
 refine qb rfl (wp_seq (qa ?_))
 refine fp HF 1 0 [(139, vP g137 0)] fun a HF => ?_
 refine fo HF 1 rfl rfl ?_
 refine e_cl HF [vP g137 0] rfl rfl (qkr _ _ g137 0 A137 c137 awX _ (HM.picks [0, 1, 2, 3, 4, 5, 6, 7, 8, 9, 10, 11, 12] (by decide) rfl) (by decide) (by first | exact Nat.le_refl _ | omega | exact Nat.zero_le _) qtg (by decide) B (hL.mem HM hB) hB (sa8) (p2 := 13) rfl) ?_
 rintro _ w140 ⟨A140, c140, rfl, hc140, HM2⟩
 refine ⟨_, rfl, ?_⟩
 replace HM := HM2
 clear HF; intro a HF
 refine fp HF 3 2 [(142, vI 0), (141, .agg #[vB 2, vB 0, vI 0, vI 7, .slice A140 0 c140])] fun a HF => ?_
 refine fo HF 5 rfl rfl ?_
 refine qr HF HM (cs := #[vB 0, vB 0, vI 0, vI 0, .slice none 0 0]) rfl (by kernel_rfl) rfl (by decide) ?_
 clear HF HM; intro a w15 g15 HF HM
 refine fo HF 6 rfl rfl ?_
 refine e_sa HF HM 0 rfl rfl rfl rfl rfl si_bk rfl rfl (by simp [Value.oneCell']) ?_
 clear HM; intro w12_6 HM
 refine fp HF 1 7 [(16, vI 0)] fun a HF => ?_
 refine qb rfl (wp_seq (qa ?_))
 refine fp HF 1 0 [(144, vP g137 0)] fun a HF => ?_
 refine fo HF 1 rfl rfl ?_
 refine e_cl HF [vP g137 0] rfl rfl (qkr _ _ g137 13 A137 c137 awX _ (HM.picks [2, 3, 0, 1, 4, 5, 6, 7, 8, 9, 10, 11, 12, 13, 14] (by decide) rfl) (by decide) (by first | exact Nat.le_refl _ | omega | exact Nat.zero_le _) qtg (by decide) B (hL.mem HM hB) hB (sa9) (p2 := 13) rfl) ?_
 rintro _ w145 ⟨A145, c145, rfl, hc145, HM2⟩
 refine ⟨_, rfl, ?_⟩
 replace HM := HM2
 clear HF; intro a HF
 refine fp HF 3 2 [(147, vI 6), (146, .agg #[vB 0, vB 0, vI 0, vI 0, .slice A145 0 c145])] fun a HF => ?_
 refine fo HF 5 rfl rfl ?_
 refine qr HF HM (cs := #[vB 0, vB 0, vI 0, vI 0, .slice none 0 0]) rfl (by kernel_rfl) rfl (by decide) ?_
 clear HF HM; intro a w17 g17 HF HM
 refine fo HF 6 rfl rfl ?_
 refine e_sa HF HM 0 rfl rfl rfl rfl rfl si_bk rfl rfl (by simp [Value.oneCell']) ?_
 clear HM; intro w13_6 HM
 refine fp HF 1 7 [(18, vI 6)] fun a HF => ?_
 refine qb rfl (wp_seq (qa ?_))
 refine fp HF 16 0 [(163, vP g15 3), (162, .bool true)] fun a HF => ?_
 refine fy HF HM 16 rfl rfl rfl (Yl.qi rfl rfl (by kernel_rfl) (fun _ h => h.cell (i := 4) rfl rfl)) fun a HF => ?_
 refine fp HF 8 17 [(172, vP g137 0), (171, .bool true)] fun a HF => ?_
 refine fo HF 25 rfl rfl ?_
 refine e_is HF HM [vP g137 0] (vI 13) rfl rfl (qkq g137 13 A137 c137 awX _ (HM.blk (i := 2) rfl)) fun w173 hbw HM a HF => ?_
 refine fp HF 3 26 [(0, .bool true)] fun a HF => ?_
 refine qb rfl ?_
 replace HF := HF.to [(0, .bool true), (15, vP g15 0), (14, vP g137 0), (125, .bool false), (9, vP gw102 0), (100, .bool false)]
 refine wp_ret ?_
 exact ret1 rfl HF (.tmp HF rfl) (⟨rfl, HM.below⟩)
theorem qq2 {w w' : World} {x : Ss} {A : Option Addr} {c k : Nat} (ho : w'.ownsRow w.heap.size 47 12 (.slice A k c) k ((qby x.bef x.es k).flatMap itL)) (hk : k = x.es.length) (hc : k ≤ c) (hb : Below w.heap.size w w') : qtk w x (.returned (.tuple #[.int .u8 ((x.cpu % 64 : Nat) : Int), .slice A k c, .int .i64 (x.opn : Int)])) w' := by
 subst hk
 have e : x.es.length = x.items.length := (qgs x).symm
 rw [e] at ho hc ⊢
 exact ⟨A, c, rfl, by have h := ho; rw [show qby x.bef x.es x.items.length = x.items by rw [qgs]; rfl] at h; exact h, hc, hb⟩
theorem qn1 (x : Ss) (hx : x.Ok) (A : Option Addr) (c : Nat) (A2 : Option Addr) (c2 : Nat) (w : World) (hr : Rd w w.heap.size 11 A x.l.length (x.l.flatMap smL)) (hc : x.l.length ≤ c) (hr2 : Rd w w.heap.size 1 A2 x.bef.length (x.bef.map W32)) (hn : x.l.length ≤ 9223372036854775807) (hn2 : x.bef.length ≤ 9223372036854775807) :
    Calls Tryd.prog 11 #[.agg (x.cells A c A2 c2)] w (qtk w x) := by
 refine qg (vs := [.agg (x.cells A c A2 c2)]) Tryd.func11 rfl rfl (by kernel_rfl) (σ0 := [(0, .agg (x.cells A c A2 c2))]) rfl ?_
 intro a HF
 have HM := Mem.start w
 refine wp_seq (qa ?_)
 refine fo HF 0 rfl rfl ?_
 refine e_box HF HM (cs := (x.cells A c A2 c2)) rfl rfl rfl rfl (by decide) ?_
 clear HF HM; intro a w1 g1 HF HM
 refine fp HF 3 1 [(4, vI 0), (3, .slice none 0 0), (2, vB 0)] fun a HF => ?_
 refine qb rfl ?_
 have hcpu := hx.cpu
 have hopn := hx.opn
 have h200 := es200 x
 refine wp_seq (qa ?_)
 refine fp HF 1 0 [(5, .slice none 0 0)] fun a HF => ?_
 refine qb rfl (wp_seq (wp_seq (qa ?_)))
 refine fp HF 1 0 [(9, vP g1 0)] fun a HF => ?_
 refine fy HF HM 1 rfl rfl rfl (v := vB x.cpu) (Yl.qi rfl rfl (by kernel_rfl) (fun _ h => h.cell (i := 0) rfl (rfl))) fun a HF => ?_
 refine fp HF 1 2 [(11, vP g1 1)] fun a HF => ?_
 refine fy HF HM 3 rfl rfl rfl (v := .agg #[vI x.b.seq, vI x.b.time]) (Yl.zt rfl rfl ⟨(by kernel_rfl), (by kernel_rfl)⟩ rfl (fun _ h => h.sub (i := 0) rfl 1 rfl)) fun a HF => ?_
 refine fp HF 1 4 [(13, vP g1 3)] fun a HF => ?_
 refine fy HF HM 5 rfl rfl rfl (v := .slice A x.l.length c) (Yl.qi rfl rfl (by kernel_rfl) (fun _ h => h.cell (i := 0) rfl (rfl))) fun a HF => ?_
 refine fo HF 6 rfl rfl ?_
 refine e_cl HF [vB x.cpu, .agg #[vI x.b.seq, vI x.b.time], .slice A x.l.length c] rfl rfl (qqr x.cpu hx.cpu x.b hx.b _ _ _ x.l hx.l _ (HM.old hr) hc hn) ?_
 rintro _ w15 ⟨⟨v, rfl, ho⟩, hbw⟩
 rw [show madeL x.cpu x.b x.l = x.es from rfl] at ho
 obtain ⟨A15, c15, rfl, hc15⟩ := qc6 ho
 refine ⟨_, rfl, ?_⟩
 replace HM := HM.callRow hbw ho
 clear HF; intro a HF
 refine fy HF HM 7 rfl rfl rfl (Yl.len rfl rfl (by kernel_rfl)) fun a HF => ?_
 refine fp HF 1 8 [(17, vI 0)] fun a HF => ?_
 refine qb rfl ?_
 replace HM := HM.nil 47 12
 refine wp_block ?_
 refine zy (fun mS aS wS => ∃ (k : Nat) (Ak : Option Addr) (ck : Nat), (k ≤ x.es.length) ∧ (k ≤ ck) ∧ mS = x.es.length - k ∧ Fr aS 51 [] [(17, vI k), (16, vI x.es.length), (15, .slice A15 x.es.length c15), (5, .slice Ak k ck), (4, vI 0), (3, .slice none 0 0), (2, vB 0), (1, vP g1 0)] ∧ Mem w wS [.row (.slice Ak k ck) k ((qby x.bef x.es k).flatMap itL) 47 12, .row (.slice A15 x.es.length c15) x.es.length (x.es.flatMap evL) 45 11, .blk g1 (x.cells A c A2 c2) 31]) (m := x.es.length - 0) ⟨0, none, 0, Nat.zero_le _, Nat.le_refl _, rfl, HF.sub (by kernel_rfl), HM.picks [0, 1, 2] (by decide) rfl⟩ ?_
 clear HF HM; rintro mS a w_ ⟨k, Ak, ck, hk, hck, rfl, HF, HM⟩
 refine wp_seq (qa ?_)
 refine fp HF 1 0 [(18, .bool (decide ((k : Int) < (x.es.length : Int))))] fun a HF => ?_
 refine qb rfl (wp_seq ?_)
 rcases HF.tf 18 rfl with ⟨hb18, HF⟩ | ⟨hb18, HF⟩
 ·
  have hd18 := of_decide_eq_true hb18
  have hk18 : k < x.es.length := by omega
  refine qf HF rfl (wp_skip (wp_seq (wp_block (wp_seq (qa ?_)))))
  refine fp HF 1 0 [(19, vI k)] fun a HF => ?_
  obtain ⟨gA15, rfl⟩ := qa0 (HM.own (i := 1) rfl) (Nat.lt_of_le_of_lt (Nat.zero_le _) (show k < x.es.length from by omega))
  refine fy HF HM 1 rfl rfl rfl (v := vP gA15 (k * 11)) (Yl.ix0 gA15 k 11 rfl rfl rfl) fun a HF => ?_
  refine fy HF HM 2 rfl rfl rfl (v := .agg ((x.es.getD k Ev.zero).cells)) (Yl.zt rfl rfl ⟨(by kernel_rfl), (by kernel_rfl)⟩ rfl (fun _ h => h.qkt zx (i := 1) rfl ((getD_at Ev.zero (k := k) (by first | omega | (simp; omega)))))) fun a HF => ?_
  refine fo HF 3 rfl rfl ?_
  refine qr HF HM (cs := #[vI 0, vI 0, vB 0, vB 0, vI 0, vI 0, vI 0, vI 0, vI 0, vQ 0, vI 0]) rfl (by kernel_rfl) rfl (by decide) ?_
  clear HF HM; intro a w7 g7 HF HM
  refine fp HF 1 4 [(6, vI k)] fun a HF => ?_
  refine fo HF 5 rfl rfl ?_
  refine e_sa HF HM 0 rfl rfl rfl rfl rfl ⟨(by kernel_rfl), (by kernel_rfl)⟩ rfl rfl (zz (x.es.getD k Ev.zero)) ?_
  clear HM; intro w4_5 HM
  refine qb rfl (wp_seq (qa ?_))
  refine fy HF HM 0 rfl rfl rfl (v := .agg ((x.es.getD k Ev.zero).cells)) (Yl.zt rfl rfl ⟨(by kernel_rfl), (by kernel_rfl)⟩ rfl (fun _ h => qd (h.blk (i := 0) rfl))) fun a HF => ?_
  refine fy HF HM 1 rfl rfl rfl (v := .agg #[vI ((x.es.getD k Ev.zero).seq), vI ((x.es.getD k Ev.zero).time), vB ((x.es.getD k Ev.zero).cpu), vB ((x.es.getD k Ev.zero).kind), vI ((x.es.getD k Ev.zero).task), vI ((x.es.getD k Ev.zero).group), vI ((x.es.getD k Ev.zero).to), vI ((x.es.getD k Ev.zero).weight), vI ((x.es.getD k Ev.zero).ticks), vQ ((x.es.getD k Ev.zero).mask), vI ((x.es.getD k Ev.zero).got), vI 0]) (Yl.build (vs := [(0, .agg ((x.es.getD k Ev.zero).cells))]) rfl (by kernel_rfl) (by kernel_rfl)) fun a HF => ?_
  refine fo HF 2 rfl rfl ?_
  refine qr HF HM (cs := #[vI 0, vI 0, vB 0, vB 0, vI 0, vI 0, vI 0, vI 0, vI 0, vQ 0, vI 0, vI 0]) rfl (by kernel_rfl) rfl (by decide) ?_
  clear HF HM; intro a w8 g8 HF HM
  refine fo HF 3 rfl rfl ?_
  refine e_sa HF HM 0 rfl rfl rfl rfl rfl si_it rfl rfl (by simp [Value.oneCell']) ?_
  clear HM; intro w5_3 HM
  refine qb rfl (wp_seq (wp_seq (qa ?_)))
  refine fp HF 1 0 [(24, vP g1 4)] fun a HF => ?_
  refine fy HF HM 1 rfl rfl rfl (v := .slice A2 x.bef.length c2) (Yl.qi rfl rfl (by kernel_rfl) (fun _ h => h.cell (i := 4) rfl (rfl))) fun a HF => ?_
  refine fy HF HM 2 rfl rfl rfl (Yl.len rfl rfl (by kernel_rfl)) fun a HF => ?_
  refine fp HF 1 3 [(27, .bool (decide ((x.bef.length : Int) > (0 : Int))))] fun a HF => ?_
  refine qb rfl ?_
  rcases HF.tf 27 rfl with ⟨hb27, HF⟩ | ⟨hb27, HF⟩
  ·
   have hd27 := of_decide_eq_true hb27
   have hb0 : 0 < x.bef.length := by omega
   have hbk : k % x.bef.length < x.bef.length := Nat.mod_lt _ hb0
   have hba : befAt x.bef k = x.bef.getD (k % x.bef.length) 0 := if_neg (by omega)
   refine qf HF rfl ?_
   refine qan HM [.blk g8 #[vI ((x.es.getD k Ev.zero).seq), vI ((x.es.getD k Ev.zero).time), vB ((x.es.getD k Ev.zero).cpu), vB ((x.es.getD k Ev.zero).kind), vI ((x.es.getD k Ev.zero).task), vI ((x.es.getD k Ev.zero).group), vI ((x.es.getD k Ev.zero).to), vI ((x.es.getD k Ev.zero).weight), vI ((x.es.getD k Ev.zero).ticks), vQ ((x.es.getD k Ev.zero).mask), vI ((x.es.getD k Ev.zero).got), vI 0] 47, .blk g7 ((x.es.getD k Ev.zero).cells) 45, .row (.slice Ak k ck) k ((qby x.bef x.es k).flatMap itL) 47 12, .row (vS gA15 x.es.length c15) x.es.length (x.es.flatMap evL) 45 11, .blk g1 (x.cells A c A2 c2) 31] [0, 1, 2, 3, 4] [11] fun HM HS => ?_
   refine ap HF (fun _ => HS) [0, 2, 3] #[true, false, true, true, false, false, false, false, false, false, false, false] [(31, vP g1 4), (30, vI k), (28, vP g1 4)] fun a HF => ?_
   refine ay HF HS 1 rfl rfl rfl (v := .slice A2 x.bef.length c2) (Yl.qi rfl rfl (by kernel_rfl) (fun _ h => h.cell (i := 4) rfl (rfl))) fun a HF => ?_
   refine ay HF HS 4 rfl rfl rfl (v := .slice A2 x.bef.length c2) (Yl.qi rfl rfl (by kernel_rfl) (fun _ h => h.cell (i := 4) rfl (rfl))) fun a HF => ?_
   refine ay HF HS 5 rfl rfl rfl (Yl.len rfl rfl (by kernel_rfl)) fun a HF => ?_
   refine ay HF HS 6 rfl rfl rfl (v := vI (k % x.bef.length : Nat)) (Yl.remN (m := k) (n := x.bef.length) rfl rfl rfl (by omega)) fun a HF => ?_
   obtain ⟨gA2, oA2, rfl, _⟩ := hr2.qa3 (Nat.lt_of_le_of_lt (Nat.zero_le _) (show k % x.bef.length < x.bef.length from by omega)) (by decide)
   refine ay HF HS 7 rfl rfl rfl (v := vP gA2 (oA2 + (k % x.bef.length) * 1)) (Yl.ix gA2 oA2 (k % x.bef.length) 1 rfl rfl rfl) fun a HF => ?_
   have hx102 := getD_lt hx.bef (k := (k % x.bef.length)) (by first | omega | (simp; omega))
   refine ay HF HS 8 rfl rfl rfl (v := vW (x.bef.getD (k % x.bef.length) 0)) (Yl.qi rfl rfl (by kernel_rfl) (fun _ h => (h.old hr2).qbn (k := (k % x.bef.length)) (qap (F := W32) (k := (k % x.bef.length)) (x := (x.bef.getD (k % x.bef.length) 0)) ((getD_at 0 (k := (k % x.bef.length)) (by first | omega | (simp; omega))))))) fun a HF => ?_
   refine qy HF (fun _ => HS) (i := 9) rfl rfl (d := 37) rfl (by decide) (by kernel_rfl) (fun _ _ _ h => h) (v := vI (IntKind.i64.wrap ((x.bef.getD (k % x.bef.length) 0) : Int))) (fun _ => Yl.pure (by kernel_rfl)) fun a HF => ?_
   replace HF := HF.sp 37 (vI (x.bef.getD (k % x.bef.length) 0)) rfl (qp rfl (by omega))
   refine ap HF (fun _ => HS) [10] #[true, true, true, true, true, true, true, true, true, true, true, false] [(38, vP g8 11)] fun a HF => ?_
   refine qj [11] (by kernel_rfl) rfl ?_
   refine all_cons ?_ all_nil
   refine ql HF (i := 11) rfl rfl ?_
   refine za HF HM (i := 0) (cs := #[vI ((x.es.getD k Ev.zero).seq), vI ((x.es.getD k Ev.zero).time), vB ((x.es.getD k Ev.zero).cpu), vB ((x.es.getD k Ev.zero).kind), vI ((x.es.getD k Ev.zero).task), vI ((x.es.getD k Ev.zero).group), vI ((x.es.getD k Ev.zero).to), vI ((x.es.getD k Ev.zero).weight), vI ((x.es.getD k Ev.zero).ticks), vQ ((x.es.getD k Ev.zero).mask), vI ((x.es.getD k Ev.zero).got), vI 0]) rfl rfl rfl rfl (by kernel_rfl) rfl rfl (by simp) ?_
   clear HM; intro w7_11 HM
   refine noS (by kernel_rfl) ?_
   refine qm (by kernel_rfl) ?_
   refine qa ?_
   refine fp HF 1 0 [(39, .slice Ak k ck)] fun a HF => ?_
   refine fy HF HM 1 rfl rfl rfl (v := .agg #[vI ((x.es.getD k Ev.zero).seq), vI ((x.es.getD k Ev.zero).time), vB ((x.es.getD k Ev.zero).cpu), vB ((x.es.getD k Ev.zero).kind), vI ((x.es.getD k Ev.zero).task), vI ((x.es.getD k Ev.zero).group), vI ((x.es.getD k Ev.zero).to), vI ((x.es.getD k Ev.zero).weight), vI ((x.es.getD k Ev.zero).ticks), vQ ((x.es.getD k Ev.zero).mask), vI ((x.es.getD k Ev.zero).got), vI (x.bef.getD (k % x.bef.length) 0)]) (Yl.zt rfl rfl si_it rfl (fun _ h => qd (h.blk (i := 0) rfl))) fun a HF => ?_
   refine fo HF 2 rfl rfl ?_
   refine qad HF HM (vs := [(0, .agg #[vI ((x.es.getD k Ev.zero).seq), vI ((x.es.getD k Ev.zero).time), vB ((x.es.getD k Ev.zero).cpu), vB ((x.es.getD k Ev.zero).kind), vI ((x.es.getD k Ev.zero).task), vI ((x.es.getD k Ev.zero).group), vI ((x.es.getD k Ev.zero).to), vI ((x.es.getD k Ev.zero).weight), vI ((x.es.getD k Ev.zero).ticks), vQ ((x.es.getD k Ev.zero).mask), vI ((x.es.getD k Ev.zero).got), vI (x.bef.getD (k % x.bef.length) 0)])]) (cs := #[vI ((x.es.getD k Ev.zero).seq), vI ((x.es.getD k Ev.zero).time), vB ((x.es.getD k Ev.zero).cpu), vB ((x.es.getD k Ev.zero).kind), vI ((x.es.getD k Ev.zero).task), vI ((x.es.getD k Ev.zero).group), vI ((x.es.getD k Ev.zero).to), vI ((x.es.getD k Ev.zero).weight), vI ((x.es.getD k Ev.zero).ticks), vQ ((x.es.getD k Ev.zero).mask), vI ((x.es.getD k Ev.zero).got), vI (x.bef.getD (k % x.bef.length) 0)]) rfl ei_it (by decide) rfl (by kernel_rfl) rfl (by decide) ?_
   clear HF HM; intro a w41 g41 HF HM
   refine fo HF 3 rfl rfl ?_
   refine zo HF HM (i := 3) rfl ei_it rfl rfl rfl (news := (itL (⟨(x.es.getD k Ev.zero), ((x.bef.getD (k % x.bef.length) 0) : Int)⟩ : It))) (HM.rdBlk (i := 0) (n := 1) (size := 12) rfl rfl) (qht _) (by omega) (by omega) rfl (by decide) ?_
   clear HF HM; intro a w42 A42 c42 HF HM hc42
   refine fp HF 1 4 [(5, .slice A42 (k + 1) c42)] fun a HF => ?_
   refine qb rfl ?_
   replace HM := HM.asRow (i := 3) (ys := (qby x.bef x.es (k + 1)).flatMap itL) rfl (by rw [qgq, List.flatMap_append, hba]; simp)
   refine qa ?_
   refine fp HF 1 0 [(43, vI (IntKind.i64.wrap ((k : Int) + 1)))] fun a HF => ?_
   replace HF := HF.sp 43 (vI (k + 1 : Nat)) rfl (qp (by omega) (by omega))
   refine fp HF 1 1 [(17, vI (k + 1 : Nat))] fun a HF => ?_
   refine qb rfl ?_
   exact ⟨_, (by omega), k + 1, A42, c42, by omega, hc42, rfl, HF.sub (by kernel_rfl), HM.picks [3, 4, 5] (by decide) rfl⟩
  have hd27 := of_decide_eq_false hb27
  have hba : befAt x.bef k = 0 := if_pos (by omega)
  refine qe HF rfl (wp_skip (qa ?_))
  refine fp HF 1 0 [(39, .slice Ak k ck)] fun a HF => ?_
  refine fy HF HM 1 rfl rfl rfl (v := .agg #[vI ((x.es.getD k Ev.zero).seq), vI ((x.es.getD k Ev.zero).time), vB ((x.es.getD k Ev.zero).cpu), vB ((x.es.getD k Ev.zero).kind), vI ((x.es.getD k Ev.zero).task), vI ((x.es.getD k Ev.zero).group), vI ((x.es.getD k Ev.zero).to), vI ((x.es.getD k Ev.zero).weight), vI ((x.es.getD k Ev.zero).ticks), vQ ((x.es.getD k Ev.zero).mask), vI ((x.es.getD k Ev.zero).got), vI 0]) (Yl.zt rfl rfl si_it rfl (fun _ h => qd (h.blk (i := 0) rfl))) fun a HF => ?_
  refine fo HF 2 rfl rfl ?_
  refine qad HF HM (vs := [(0, .agg #[vI ((x.es.getD k Ev.zero).seq), vI ((x.es.getD k Ev.zero).time), vB ((x.es.getD k Ev.zero).cpu), vB ((x.es.getD k Ev.zero).kind), vI ((x.es.getD k Ev.zero).task), vI ((x.es.getD k Ev.zero).group), vI ((x.es.getD k Ev.zero).to), vI ((x.es.getD k Ev.zero).weight), vI ((x.es.getD k Ev.zero).ticks), vQ ((x.es.getD k Ev.zero).mask), vI ((x.es.getD k Ev.zero).got), vI 0])]) (cs := #[vI ((x.es.getD k Ev.zero).seq), vI ((x.es.getD k Ev.zero).time), vB ((x.es.getD k Ev.zero).cpu), vB ((x.es.getD k Ev.zero).kind), vI ((x.es.getD k Ev.zero).task), vI ((x.es.getD k Ev.zero).group), vI ((x.es.getD k Ev.zero).to), vI ((x.es.getD k Ev.zero).weight), vI ((x.es.getD k Ev.zero).ticks), vQ ((x.es.getD k Ev.zero).mask), vI ((x.es.getD k Ev.zero).got), vI 0]) rfl ei_it (by decide) rfl (by kernel_rfl) rfl (by decide) ?_
  clear HF HM; intro a w41 g41 HF HM
  refine fo HF 3 rfl rfl ?_
  refine zo HF HM (i := 3) rfl ei_it rfl rfl rfl (news := (itL (⟨(x.es.getD k Ev.zero), 0⟩ : It))) (HM.rdBlk (i := 0) (n := 1) (size := 12) rfl rfl) (qht _) (by omega) (by omega) rfl (by decide) ?_
  clear HF HM; intro a w42 A42 c42 HF HM hc42
  refine fp HF 1 4 [(5, .slice A42 (k + 1) c42)] fun a HF => ?_
  refine qb rfl ?_
  replace HM := HM.asRow (i := 3) (ys := (qby x.bef x.es (k + 1)).flatMap itL) rfl (by rw [qgq, List.flatMap_append, hba]; simp)
  refine qa ?_
  refine fp HF 1 0 [(43, vI (IntKind.i64.wrap ((k : Int) + 1)))] fun a HF => ?_
  replace HF := HF.sp 43 (vI (k + 1 : Nat)) rfl (qp (by omega) (by omega))
  refine fp HF 1 1 [(17, vI (k + 1 : Nat))] fun a HF => ?_
  refine qb rfl ?_
  exact ⟨_, (by omega), k + 1, A42, c42, by omega, hc42, rfl, HF.sub (by kernel_rfl), HM.picks [3, 4, 5] (by decide) rfl⟩
 have hd18 := of_decide_eq_false hb18
 have hkn : k = x.es.length := by omega
 refine qe HF rfl (wp_exit (wp_seq ?_))
 refine qan HM [.row (.slice Ak k ck) k ((qby x.bef x.es k).flatMap itL) 47 12, .row (.slice A15 x.es.length c15) x.es.length (x.es.flatMap evL) 45 11, .blk g1 (x.cells A c A2 c2) 31] [0, 1, 2] [] fun HM HS => ?_
 refine ap HF (fun _ => HS) [0, 3, 4] #[true, false, false, true, true, false, false, false, false, false] [(48, vP g1 5), (47, .slice Ak k ck), (44, vP g1 0)] fun a HF => ?_
 refine ay HF HS 1 rfl rfl rfl (v := vB x.cpu) (Yl.qi rfl rfl (by kernel_rfl) (fun _ h => h.cell (i := 2) rfl (rfl))) fun a HF => ?_
 refine qy HF (fun _ => HS) (i := 2) rfl rfl (d := 46) rfl (by decide) (by kernel_rfl) (fun _ _ _ h => h) (v := vB (Int.tmod (x.cpu : Int) 64)) (fun _ => Yl.pure (by kernel_rfl)) fun a HF => ?_
 replace HF := HF.sp 46 (vB (x.cpu % 64 : Nat)) rfl (qfo .u8 _ 64)
 refine ap HF (fun _ => HS) [7, 8] #[true, true, true, true, true, false, false, true, true, false] [(3, .slice Ak k ck), (2, vB (x.cpu % 64 : Nat))] fun a HF => ?_
 refine ay HF HS 5 rfl rfl rfl (v := vW x.opn) (Yl.qi rfl rfl (by kernel_rfl) (fun _ h => h.cell (i := 2) rfl (rfl))) fun a HF => ?_
 refine qy HF (fun _ => HS) (i := 6) rfl rfl (d := 50) rfl (by decide) (by kernel_rfl) (fun _ _ _ h => h) (v := vI (IntKind.i64.wrap (x.opn : Int))) (fun _ => Yl.pure (by kernel_rfl)) fun a HF => ?_
 replace HF := HF.sp 50 (vI x.opn) rfl (qp rfl (by omega))
 refine ap HF (fun _ => HS) [9] #[true, true, true, true, true, true, true, true, true, true] [(4, vI x.opn)] fun a HF => ?_
 refine qm (by kernel_rfl) ?_
 refine wp_ret ?_
 exact ret3 rfl HF (.tmp HF rfl) (.tmp HF rfl) (.tmp HF rfl) (qq2 (HM.own (i := 0) rfl) hkn hck HM.below)
theorem qq9 (lim : Int) (w : World) (hl : I64 lim) (h : lim < 1 ∨ 4096 < lim) : Calls Tryd.prog 14 #[.int .i64 lim] w (Is w (.tuple #[.pointer none, .int .i64 2])) :=
 (qko lim hl w).mono fun r w' h1 => by
  rcases h1 with ⟨_, h2⟩ | ⟨h2, _⟩
  ·exact h2
  ·exact absurd h h2
theorem qgu (x : Ss) (hx : x.Ok) (A : Option Addr) (c : Nat) (A2 : Option Addr) (c2 : Nat) (wy : Nat) (hwy : wy < 256) (n : Int) (hnI : I64 n) (B : Nat) (w : World) (hL : LaidX B w) (hB : B ≤ w.heap.size) (hr : Rd w w.heap.size 11 A x.l.length (x.l.flatMap smL)) (hc : x.l.length ≤ c) (hr2 : Rd w w.heap.size 1 A2 x.bef.length (x.bef.map W32)) (hn : x.l.length ≤ 9223372036854775807) (hn2 : x.bef.length ≤ 9223372036854775807) :
    Calls Tryd.prog 5 #[.agg (x.cells A c A2 c2), .int .u8 (wy : Int), .int .i64 n] w (Is w (.bool true)) := by
 refine qg (vs := [.agg (x.cells A c A2 c2), vB wy, vI n]) Tryd.func5 rfl rfl (by kernel_rfl) (σ0 := [(0, .agg (x.cells A c A2 c2)), (1, vB wy), (2, vI n)]) rfl ?_
 intro a HF
 have HM := Mem.start w
 refine wp_seq (qa ?_)
 refine fo HF 0 rfl rfl ?_
 refine e_box HF HM (cs := (x.cells A c A2 c2)) rfl rfl rfl rfl (by decide) ?_
 clear HF HM; intro a w3 g3 HF HM
 refine fp HF 1 1 [(6, .bool false)] fun a HF => ?_
 refine qb rfl ?_
 have hcpu := hx.cpu
 have hcp : (x.cpu % 64) < 64 := Nat.mod_lt _ (by decide)
 have hopn := hx.opn
 have hL0 := qso hx
 have hil : x.items.length ≤ 200 := by rw [qgs]; exact es200 x
 obtain ⟨z1, hz1, hz1a⟩ : ∃ z, (if (0 : Int) < (n : Int) then 0 else n) = z ∧ (z < 1 ∧ I64 z) := ⟨_, rfl, by unfold I64 at hnI ⊢; split <;> omega⟩
 obtain ⟨z2, hz2, hz2a⟩ : ∃ z, (if (4097 : Int) > (n : Int) then 4097 else n) = z ∧ (4096 < z ∧ I64 z) := ⟨_, rfl, by unfold I64 at hnI ⊢; split <;> omega⟩
 refine wp_seq (wp_seq (qa ?_))
 refine fo HF 0 rfl rfl ?_
 refine e_is HF HM [] (.bool true) rfl rfl (qn0 B _ (hL.mem HM hB) (HM.le hB)) fun w25 hbw HM a HF => ?_
 refine fp HF 1 1 [(26, .bool false)] fun a HF => ?_
 refine qb rfl (qe HF rfl (wp_skip (wp_seq (wp_seq (qa ?_)))))
 refine fp HF 1 0 [(27, vI n)] fun a HF => ?_
 refine fy HF HM 1 rfl rfl rfl (v := vI (if (0 : Int) < (n : Int) then 0 else n)) (Yl.min rfl rfl rfl) fun a HF => ?_
 replace HF := HF.sp 28 (vI z1) rfl (by rw [hz1])
 refine fp HF 1 2 [(29, vI n)] fun a HF => ?_
 refine fy HF HM 3 rfl rfl rfl (v := vI (if (4097 : Int) > (n : Int) then 4097 else n)) (Yl.max rfl rfl rfl) fun a HF => ?_
 replace HF := HF.sp 30 (vI z2) rfl (by rw [hz2])
 refine fo HF 4 rfl rfl ?_
 refine qad HF HM (vs := [(0, vI z1), (1, vI z2)]) (cs := #[vI z1, vI z2]) rfl qi2 (by decide) rfl (by kernel_rfl) rfl (by decide) ?_
 clear HF HM; intro a w31 g31 HF HM
 refine fy HF HM 5 rfl rfl rfl (Yl.len rfl rfl (by kernel_rfl)) fun a HF => ?_
 refine fp HF 1 6 [(33, vI 0)] fun a HF => ?_
 refine qb rfl ?_
 replace HM := (HM.blkRow (i := 0) (n := 2) (size := 1) rfl rfl (by decide)).asRow (i := 0) (ys := [z1, z2].map I64i) rfl (rfl)
 refine wp_block ?_
 refine zy (fun mS aS wS => ∃ (k : Nat), (k ≤ 2) ∧ mS = 2 - k ∧ Fr aS 194 [] [(33, vI k), (32, vI 2), (31, vS g31 2 2), (26, .bool false), (6, .bool false), (3, vP g3 0), (1, vB wy), (2, vI n)] ∧ Mem w wS [.row (vS g31 2 2) 2 ([z1, z2].map I64i) 3 1, .blk g3 (x.cells A c A2 c2) 31]) (m := 2 - 0) ⟨0, by decide, rfl, HF.sub (by kernel_rfl), HM.picks [0, 1] (by decide) rfl⟩ ?_
 clear HF HM; rintro mS a w_ ⟨k, hk, rfl, HF, HM⟩
 refine wp_seq (qa ?_)
 refine fp HF 1 0 [(34, .bool (decide ((k : Int) < (2 : Int))))] fun a HF => ?_
 refine qb rfl (wp_seq ?_)
 rcases HF.tf 34 rfl with ⟨hb34, HF⟩ | ⟨hb34, HF⟩
 ·
  have hd34 := of_decide_eq_true hb34
  have hk34 : k < 2 := by omega
  obtain ⟨zk, hzk⟩ : ∃ z, [z1, z2].getD k 0 = z := ⟨_, rfl⟩
  have hzb : (zk < 1 ∨ 4096 < zk) ∧ I64 zk := by rw [← hzk]; rcases (show k = 0 ∨ k = 1 by omega) with rfl | rfl; exact ⟨.inl hz1a.1, hz1a.2⟩; exact ⟨.inr hz2a.1, hz2a.2⟩
  refine qf HF rfl (wp_skip (wp_seq (wp_block (wp_seq (qa ?_)))))
  refine fy HF HM 0 rfl rfl rfl (v := vP g31 (k * 1)) (Yl.ix0 g31 k 1 rfl rfl rfl) fun a HF => ?_
  refine fy HF HM 1 rfl rfl rfl (v := vI ([z1, z2].getD k 0)) (Yl.qi rfl rfl (by kernel_rfl) (fun _ h => h.qra (i := 0) rfl (k := k) (qap (F := I64i) (k := k) (x := ([z1, z2].getD k 0)) ((getD_at 0 (by show k < 2; omega)))))) fun a HF => ?_
  replace HF := HF.sp 36 (vI zk) rfl (by rw [hzk])
  refine fp HF 1 2 [(8, vI zk)] fun a HF => ?_
  refine qb rfl (wp_seq (qa ?_))
  refine fp HF 1 0 [(38, vI zk)] fun a HF => ?_
  refine fo HF 1 rfl rfl ?_
  refine e_is HF HM [vI zk] (.tuple #[.pointer none, vI 2]) rfl rfl (qq9 zk _ hzb.2 hzb.1) fun w39 hbw HM a HF => ?_
  refine fp HF 5 2 [(10, vI 2), (9, .pointer none)] fun a HF => ?_
  refine qb rfl (wp_seq (qa ?_))
  refine fp HF 1 0 [(43, vI zk)] fun a HF => ?_
  refine fo HF 1 rfl rfl ?_
  refine e_cl HF [vB 0, .slice none 0 0, vI 0, vI zk] rfl rfl (qcw 0 (by decide) none 0 0 [] 0 zk (by intro x hx; cases hx) (by unfold I64; decide) hzb.2 B _ (hL.mem HM hB) (HM.le hB) Rd.nil (Nat.le_refl _) rfl (by decide) (qen (by omega))) ?_
  rintro _ w44 ⟨A44, c44, q44, rfl, hq44, hc44, hm⟩
  obtain rfl := List.map_eq_nil_iff.1 hq44
  refine ⟨_, rfl, ?_⟩
  replace HM := HM.call hm.below
  clear HF; intro a HF
  refine fp HF 5 2 [(12, vI 2)] fun a HF => ?_
  refine qb rfl (wp_seq (qa ?_))
  refine fp HF 1 0 [(47, .pointer none)] fun a HF => ?_
  refine fy HF HM 1 rfl rfl rfl (v := .bool false) (Yl.qwf rfl rfl rfl) fun a HF => ?_
  refine fp HF 8 2 [(56, .bool false)] fun a HF => ?_
  refine qb rfl (qe HF rfl (wp_skip (qa ?_)))
  refine fp HF 1 0 [(57, vI (IntKind.i64.wrap ((k : Int) + 1)))] fun a HF => ?_
  replace HF := HF.sp 57 (vI (k + 1 : Nat)) rfl (qp (by omega) (by omega))
  refine fp HF 1 1 [(33, vI (k + 1 : Nat))] fun a HF => ?_
  refine qb rfl ?_
  exact ⟨_, (by omega), k + 1, by omega, rfl, HF.sub (by kernel_rfl), HM.picks [0, 1] (by decide) rfl⟩
 have hd34 := of_decide_eq_false hb34
 refine qe HF rfl (wp_exit (wp_seq (qa ?_)))
 refine fo HF 0 rfl rfl ?_
 refine e_cl HF [vI 50] rfl rfl (qmr 50 _ (by decide)) ?_
 rintro _ w59 ⟨gw59, rfl, hm⟩
 refine ⟨_, rfl, ?_⟩
 replace HM := (HM.join hm).nil 5 1
 clear HF; intro a HF
 refine fp HF 5 1 [(14, vI 0), (13, vP gw59 0)] fun a HF => ?_
 refine qb rfl (wp_seq (qa ?_))
 refine fy HF HM 0 rfl rfl rfl (v := .agg (x.cells A c A2 c2)) (Yl.zt rfl rfl si_ss rfl (fun _ h => qd (h.blk (i := 3) rfl))) fun a HF => ?_
 refine fo HF 1 rfl rfl ?_
 refine e_cl HF [.agg (x.cells A c A2 c2)] rfl rfl (qn1 x hx A c A2 c2 _ (HM.old hr) hc (HM.old hr2) hn hn2) ?_
 rintro _ w64 ⟨Am, cm, rfl, ho, hcm, hbw⟩
 refine ⟨_, rfl, ?_⟩
 replace HM := HM.callRow hbw ho
 clear HF; intro a HF
 refine fp HF 7 2 [(17, vI x.opn), (16, .slice Am x.items.length cm), (15, vB (x.cpu % 64 : Nat))] fun a HF => ?_
 refine qb rfl (wp_seq (wp_seq (qa ?_)))
 refine fp HF 4 0 [(71, vP gw59 0), (70, .bool false)] fun a HF => ?_
 refine fy HF HM 4 rfl rfl rfl (v := .bool false) (Yl.qkw rfl rfl rfl) fun a HF => ?_
 refine fp HF 3 5 [(75, vP gw59 0), (74, .bool false)] fun a HF => ?_
 refine fo HF 8 rfl rfl ?_
 refine e_cl HF [vP gw59 0, vI 5] rfl rfl (qft _ _ gw59 50 none 0 [] _ (HM.picks [2, 1, 0, 3, 4] (by decide) rfl) (by first | exact Nat.le_refl _ | omega | exact Nat.zero_le _) (by decide) (by decide) 5 (by unfold I64; decide) B (hL.mem HM hB) hB w5_is) ?_
 rintro _ w76 ⟨rfl, A76, c76, hc76, HM2⟩
 refine ⟨_, rfl, ?_⟩
 replace HM := HM2
 clear HF; intro a HF
 refine fp HF 2 9 [(78, .bool false)] fun a HF => ?_
 refine qb rfl (qe HF rfl (wp_skip (wp_seq (qa ?_))))
 refine fp HF 2 0 [(80, vB (x.cpu % 64 : Nat)), (79, .slice Am x.items.length cm)] fun a HF => ?_
 refine fy HF HM 2 rfl rfl rfl (v := .agg #[vI 140737488355328, vI 140737488355328, vB (x.cpu % 64 : Nat), vB 6, vI 0, vI 0, vI 0, vI 0, vI 0, vQ 0, vI 0]) (Yl.build (vs := [(0, vI 140737488355328), (1, vI 140737488355328), (2, vB (x.cpu % 64 : Nat)), (3, vB 6)]) rfl (by kernel_rfl) (by kernel_rfl)) fun a HF => ?_
 refine fy HF HM 3 rfl rfl rfl (v := .agg #[vI 140737488355328, vI 140737488355328, vB (x.cpu % 64 : Nat), vB 6, vI 0, vI 0, vI 0, vI 0, vI 0, vQ 0, vI 0, vI 0]) (Yl.build (vs := [(0, .agg #[vI 140737488355328, vI 140737488355328, vB (x.cpu % 64 : Nat), vB 6, vI 0, vI 0, vI 0, vI 0, vI 0, vQ 0, vI 0])]) rfl (by kernel_rfl) (by kernel_rfl)) fun a HF => ?_
 refine fo HF 4 rfl rfl ?_
 refine qad HF HM (vs := [(0, .agg #[vI 140737488355328, vI 140737488355328, vB (x.cpu % 64 : Nat), vB 6, vI 0, vI 0, vI 0, vI 0, vI 0, vQ 0, vI 0, vI 0])]) (cs := #[vI 140737488355328, vI 140737488355328, vB (x.cpu % 64 : Nat), vB 6, vI 0, vI 0, vI 0, vI 0, vI 0, vQ 0, vI 0, vI 0]) rfl ei_it (by decide) rfl (by kernel_rfl) rfl (by decide) ?_
 clear HF HM; intro a w83 g83 HF HM
 refine fo HF 5 rfl rfl ?_
 refine zo HF HM (i := 3) rfl ei_it rfl rfl rfl (news := (itL (pickI (x.cpu % 64)))) (HM.rdBlk (i := 0) (n := 1) (size := 12) rfl rfl) (qht _) (by omega) (by omega) rfl (by decide) ?_
 clear HF HM; intro a w84 A84 c84 HF HM hc84
 rw [show (x.items.flatMap itL) ++ (itL (pickI (x.cpu % 64))) = (x.items ++ [pickI (x.cpu % 64)]).flatMap itL from by rw [List.flatMap_append, List.flatMap_singleton]] at HM
 refine fp HF 1 6 [(16, .slice A84 (x.items.length + 1) c84)] fun a HF => ?_
 refine qb rfl (wp_seq (qa ?_))
 refine fp HF 1 0 [(85, .slice A84 (x.items.length + 1) c84)] fun a HF => ?_
 refine fy HF HM 1 rfl rfl rfl (Yl.len rfl rfl (by kernel_rfl)) fun a HF => ?_
 refine fp HF 1 2 [(87, vI (IntKind.i64.wrap (((x.items.length + 1 : Nat) : Int) - 1)))] fun a HF => ?_
 replace HF := HF.sp 87 (vI x.items.length) rfl (qp (by omega) (by omega))
 refine fp HF 1 3 [(18, vI x.items.length)] fun a HF => ?_
 refine qb rfl (wp_seq (qa ?_))
 refine fp HF 1 0 [(19, vI 110)] fun a HF => ?_
 refine qb rfl ?_
 replace HM := HM.picks (fs' := [.blk gw59 #[vI 50, .slice A76 w5.length c76] 95, .row (.slice A76 w5.length c76) w5.length (w5.map B8) 5 1, .row (.slice A84 (x.items.length + 1) c84) (x.items.length + 1) ((x.items ++ [pickI (x.cpu % 64)]).flatMap itL) 47 12, .row (vS g31 2 2) 2 ([z1, z2].map I64i) 3 1, .blk g3 (x.cells A c A2 c2) 31]) [1, 2, 3, 4, 5] (by decide) rfl
 refine qa7 (fun aS wS => ∃ (cp : Nat) (L : List It) (Ai : Option Addr) (ci : Nat) (op : Int) (wt : Nat), Fr aS 194 [] [(19, vI wt), (16, .slice Ai L.length ci), (17, vI op), (15, vB cp), (13, vP gw59 0), (6, .bool false), (2, vI n)] ∧ Mem w wS [.row (.slice Ai L.length ci) L.length (L.flatMap itL) 47 12, .blk gw59 #[vI 50, .slice A76 w5.length c76] 95, .row (.slice A76 w5.length c76) w5.length (w5.map B8) 5 1] ∧ (cp < 256) ∧ (I64 op) ∧ (∀ y ∈ L, y.Ok) ∧ (L.length ≤ 300) ∧ (L.length ≤ ci) ∧ (cutS cp L op 50 = ([], wt)) ∧ (wt ≠ 0)) ?_ ?_
 ·
  refine wp_seq (qa ?_)
  refine fp HF 2 0 [(89, vB (Int.tmod (wy : Int) 7))] fun a HF => ?_
  replace HF := HF.sp 89 (vB (wy % 7 : Nat)) rfl (qfo .u8 _ 7)
  refine qb rfl (wp_block (wp_seq (qa ?_)))
  refine fp HF 2 0 [(92, .bool (((wy % 7 : Nat) : Int) == (0 : Int)))] fun a HF => ?_
  refine qb rfl ?_
  rcases HF.tf 92 rfl with ⟨hb92, HF⟩ | ⟨hb92, HF⟩
  ·
   have hd92 := eq_of_beq hb92
   obtain ⟨z, hz, hz0⟩ : ∃ z, (if (-1 : Int) < (n : Int) then -1 else n) = z ∧ (z < 0 ∧ I64 z) := ⟨_, rfl, by unfold I64 at hnI ⊢; split <;> omega⟩
   refine qf HF rfl (qa ?_)
   refine fp HF 1 0 [(94, vI n)] fun a HF => ?_
   refine fy HF HM 1 rfl rfl rfl (v := vI (if (-1 : Int) < (n : Int) then -1 else n)) (Yl.min rfl rfl rfl) fun a HF => ?_
   replace HF := HF.sp 95 (vI z) rfl (by rw [hz])
   refine fp HF 1 2 [(17, vI z)] fun a HF => ?_
   refine qb rfl ?_
   have hll : (x.items ++ [pickI (x.cpu % 64)]).length = x.items.length + 1 := by simp
   replace HM := HM.reRow (i := 2) (ys := (x.items ++ [pickI (x.cpu % 64)]).flatMap itL) rfl hll.symm rfl
   replace HF := HF.as (t := 16) (u := .slice A84 ((x.items ++ [pickI (x.cpu % 64)]).length) c84) rfl (by rw [hll])
   have hLok : ∀ y ∈ (x.items ++ [pickI (x.cpu % 64)]), y.Ok := qb3 hL0 (qdo (by omega))
   exact ⟨(x.cpu % 64), (x.items ++ [pickI (x.cpu % 64)]), A84, c84, z, 110, HF.sub (by kernel_rfl), HM.picks [2, 0, 1] (by decide) rfl, by omega, hz0.2, hLok, by rw [hll]; omega, by rw [hll]; exact hc84, qdp hcp hLok (qq4 hz0.1), by decide⟩
  have hd92 := ne_of_beq_false hb92
  refine qe HF rfl (wp_seq (qa ?_))
  refine fp HF 2 0 [(96, .bool (((wy % 7 : Nat) : Int) == (1 : Int)))] fun a HF => ?_
  refine qb rfl ?_
  rcases HF.tf 96 rfl with ⟨hb96, HF⟩ | ⟨hb96, HF⟩
  ·
   have hd96 := eq_of_beq hb96
   obtain ⟨z, hz, hz0⟩ : ∃ z, (if (281474976710657 : Int) > (n : Int) then 281474976710657 else n) = z ∧ (281474976710656 < z ∧ I64 z) := ⟨_, rfl, by unfold I64 at hnI ⊢; split <;> omega⟩
   refine qf HF rfl (qa ?_)
   refine fp HF 1 0 [(98, vI n)] fun a HF => ?_
   refine fy HF HM 1 rfl rfl rfl (v := vI (if (281474976710657 : Int) > (n : Int) then 281474976710657 else n)) (Yl.max rfl rfl rfl) fun a HF => ?_
   replace HF := HF.sp 99 (vI z) rfl (by rw [hz])
   refine fp HF 1 2 [(17, vI z)] fun a HF => ?_
   refine qb rfl ?_
   have hll : (x.items ++ [pickI (x.cpu % 64)]).length = x.items.length + 1 := by simp
   replace HM := HM.reRow (i := 2) (ys := (x.items ++ [pickI (x.cpu % 64)]).flatMap itL) rfl hll.symm rfl
   replace HF := HF.as (t := 16) (u := .slice A84 ((x.items ++ [pickI (x.cpu % 64)]).length) c84) rfl (by rw [hll])
   have hLok : ∀ y ∈ (x.items ++ [pickI (x.cpu % 64)]), y.Ok := qb3 hL0 (qdo (by omega))
   exact ⟨(x.cpu % 64), (x.items ++ [pickI (x.cpu % 64)]), A84, c84, z, 110, HF.sub (by kernel_rfl), HM.picks [2, 0, 1] (by decide) rfl, by omega, hz0.2, hLok, by rw [hll]; omega, by rw [hll]; exact hc84, qdp hcp hLok (qn2 hz0.1), by decide⟩
  have hd96 := ne_of_beq_false hb96
  refine qe HF rfl (wp_seq (qa ?_))
  refine fp HF 2 0 [(100, .bool (((wy % 7 : Nat) : Int) == (2 : Int)))] fun a HF => ?_
  refine qb rfl ?_
  rcases HF.tf 100 rfl with ⟨hb100, HF⟩ | ⟨hb100, HF⟩
  ·
   have hd100 := eq_of_beq hb100
   obtain ⟨z, hz, hz0⟩ : ∃ z, (if (-1 : Int) < (n : Int) then -1 else n) = z ∧ (z < 0 ∧ I64 z) := ⟨_, rfl, by unfold I64 at hnI ⊢; split <;> omega⟩
   refine qf HF rfl (qa ?_)
   refine fp HF 3 0 [(104, vI n), (103, vI x.items.length), (102, .slice A84 (x.items.length + 1) c84)] fun a HF => ?_
   refine fy HF HM 3 rfl rfl rfl (v := vI (if (-1 : Int) < (n : Int) then -1 else n)) (Yl.min rfl rfl rfl) fun a HF => ?_
   replace HF := HF.sp 105 (vI z) rfl (by rw [hz])
   obtain ⟨gA84, rfl⟩ := qa0 (HM.own (i := 2) rfl) (Nat.lt_of_le_of_lt (Nat.zero_le _) (show x.items.length < x.items.length + 1 from by omega))
   refine fy HF HM 4 rfl rfl rfl (v := vP gA84 (x.items.length * 12)) (Yl.ix0 gA84 x.items.length 12 rfl rfl rfl) fun a HF => ?_
   refine fp HF 1 5 [(107, vP gA84 (x.items.length * 12 + 11))] fun a HF => ?_
   refine fo HF 6 rfl rfl ?_
   refine qe4 HF HM (i := 2) rfl rfl rfl rfl (by kernel_rfl) rfl rfl (by simp only [zw itL 12 qa2, List.length_append, List.length_cons, List.length_nil]; omega) ?_
   clear HM; intro w25_6 HM
   replace HM := HM.asRow (i := 2) (ys := (x.items ++ [(⟨pickE (x.cpu % 64), z⟩ : It)]).flatMap itL) rfl (qiy x.items (pickI (x.cpu % 64)) (⟨pickE (x.cpu % 64), z⟩ : It) (by decide) _ rfl)
   refine qb rfl ?_
   have hll : (x.items ++ [(⟨pickE (x.cpu % 64), z⟩ : It)]).length = x.items.length + 1 := by simp
   replace HM := HM.reRow (i := 2) (ys := (x.items ++ [(⟨pickE (x.cpu % 64), z⟩ : It)]).flatMap itL) rfl hll.symm rfl
   replace HF := HF.as (t := 16) (u := vS gA84 ((x.items ++ [(⟨pickE (x.cpu % 64), z⟩ : It)]).length) c84) rfl (by rw [hll])
   have hLok : ∀ y ∈ (x.items ++ [(⟨pickE (x.cpu % 64), z⟩ : It)]), y.Ok := qb3 hL0 ⟨qix (by omega), hz0.2⟩
   exact ⟨(x.cpu % 64), (x.items ++ [(⟨pickE (x.cpu % 64), z⟩ : It)]), some ⟨gA84, 0, none⟩, c84, (x.opn : Int), 110, HF.sub (by kernel_rfl), HM.picks [2, 0, 1] (by decide) rfl, by omega, (by unfold I64; omega), hLok, by rw [hll]; omega, by rw [hll]; exact hc84, qdp hcp hLok (qq5 hz0.1), by decide⟩
  have hd100 := ne_of_beq_false hb100
  refine qe HF rfl (wp_seq (qa ?_))
  refine fp HF 2 0 [(108, .bool (((wy % 7 : Nat) : Int) == (3 : Int)))] fun a HF => ?_
  refine qb rfl ?_
  rcases HF.tf 108 rfl with ⟨hb108, HF⟩ | ⟨hb108, HF⟩
  ·
   have hd108 := eq_of_beq hb108
   obtain ⟨z, hz, hz0⟩ : ∃ z, (if (281474976710657 : Int) > (n : Int) then 281474976710657 else n) = z ∧ (281474976710656 < z ∧ I64 z) := ⟨_, rfl, by unfold I64 at hnI ⊢; split <;> omega⟩
   refine qf HF rfl (qa ?_)
   refine fp HF 3 0 [(112, vI n), (111, vI x.items.length), (110, .slice A84 (x.items.length + 1) c84)] fun a HF => ?_
   refine fy HF HM 3 rfl rfl rfl (v := vI (if (281474976710657 : Int) > (n : Int) then 281474976710657 else n)) (Yl.max rfl rfl rfl) fun a HF => ?_
   replace HF := HF.sp 113 (vI z) rfl (by rw [hz])
   obtain ⟨gA84, rfl⟩ := qa0 (HM.own (i := 2) rfl) (Nat.lt_of_le_of_lt (Nat.zero_le _) (show x.items.length < x.items.length + 1 from by omega))
   refine fy HF HM 4 rfl rfl rfl (v := vP gA84 (x.items.length * 12)) (Yl.ix0 gA84 x.items.length 12 rfl rfl rfl) fun a HF => ?_
   refine fp HF 1 5 [(115, vP gA84 (x.items.length * 12 + 11))] fun a HF => ?_
   refine fo HF 6 rfl rfl ?_
   refine qe4 HF HM (i := 2) rfl rfl rfl rfl (by kernel_rfl) rfl rfl (by simp only [zw itL 12 qa2, List.length_append, List.length_cons, List.length_nil]; omega) ?_
   clear HM; intro w27_6 HM
   replace HM := HM.asRow (i := 2) (ys := (x.items ++ [(⟨pickE (x.cpu % 64), z⟩ : It)]).flatMap itL) rfl (qiy x.items (pickI (x.cpu % 64)) (⟨pickE (x.cpu % 64), z⟩ : It) (by decide) _ rfl)
   refine qb rfl ?_
   have hll : (x.items ++ [(⟨pickE (x.cpu % 64), z⟩ : It)]).length = x.items.length + 1 := by simp
   replace HM := HM.reRow (i := 2) (ys := (x.items ++ [(⟨pickE (x.cpu % 64), z⟩ : It)]).flatMap itL) rfl hll.symm rfl
   replace HF := HF.as (t := 16) (u := vS gA84 ((x.items ++ [(⟨pickE (x.cpu % 64), z⟩ : It)]).length) c84) rfl (by rw [hll])
   have hLok : ∀ y ∈ (x.items ++ [(⟨pickE (x.cpu % 64), z⟩ : It)]), y.Ok := qb3 hL0 ⟨qix (by omega), hz0.2⟩
   exact ⟨(x.cpu % 64), (x.items ++ [(⟨pickE (x.cpu % 64), z⟩ : It)]), some ⟨gA84, 0, none⟩, c84, (x.opn : Int), 110, HF.sub (by kernel_rfl), HM.picks [2, 0, 1] (by decide) rfl, by omega, (by unfold I64; omega), hLok, by rw [hll]; omega, by rw [hll]; exact hc84, qdp hcp hLok (qq6 hz0.1), by decide⟩
  have hd108 := ne_of_beq_false hb108
  refine qe HF rfl (wp_seq (qa ?_))
  refine fp HF 2 0 [(116, .bool (((wy % 7 : Nat) : Int) == (4 : Int)))] fun a HF => ?_
  refine qb rfl ?_
  rcases HF.tf 116 rfl with ⟨hb116, HF⟩ | ⟨hb116, HF⟩
  ·
   have hd116 := eq_of_beq hb116
   refine qf HF rfl (qa ?_)
   refine fp HF 4 0 [(121, vB (IntKind.u8.wrap (((x.cpu % 64 : Nat) : Int) + 1))), (119, vI x.items.length), (118, .slice A84 (x.items.length + 1) c84)] fun a HF => ?_
   replace HF := HF.sp 121 (vB (x.cpu % 64 + 1 : Nat)) rfl (qo8 (by omega) (by omega))
   refine fp HF 1 4 [(122, vB (Int.tmod ((x.cpu % 64 + 1 : Nat) : Int) 64))] fun a HF => ?_
   replace HF := HF.sp 122 (vB ((x.cpu % 64 + 1) % 64 : Nat)) rfl (qfo .u8 _ 64)
   obtain ⟨gA84, rfl⟩ := qa0 (HM.own (i := 2) rfl) (Nat.lt_of_le_of_lt (Nat.zero_le _) (show x.items.length < x.items.length + 1 from by omega))
   refine fy HF HM 5 rfl rfl rfl (v := vP gA84 (x.items.length * 12)) (Yl.ix0 gA84 x.items.length 12 rfl rfl rfl) fun a HF => ?_
   refine fp HF 2 6 [(125, vP gA84 (x.items.length * 12 + 2))] fun a HF => ?_
   refine fo HF 8 rfl rfl ?_
   refine qe4 HF HM (i := 2) rfl rfl rfl rfl (by kernel_rfl) rfl rfl (by simp only [zw itL 12 qa2, List.length_append, List.length_cons, List.length_nil]; omega) ?_
   clear HM; intro w29_8 HM
   replace HM := HM.asRow (i := 2) (ys := (x.items ++ [(⟨pickE ((x.cpu % 64 + 1) % 64), 0⟩ : It)]).flatMap itL) rfl (qiy x.items (pickI (x.cpu % 64)) (⟨pickE ((x.cpu % 64 + 1) % 64), 0⟩ : It) (by decide) _ rfl)
   refine qb rfl ?_
   have hll : (x.items ++ [(⟨pickE ((x.cpu % 64 + 1) % 64), 0⟩ : It)]).length = x.items.length + 1 := by simp
   replace HM := HM.reRow (i := 2) (ys := (x.items ++ [(⟨pickE ((x.cpu % 64 + 1) % 64), 0⟩ : It)]).flatMap itL) rfl hll.symm rfl
   replace HF := HF.as (t := 16) (u := vS gA84 ((x.items ++ [(⟨pickE ((x.cpu % 64 + 1) % 64), 0⟩ : It)]).length) c84) rfl (by rw [hll])
   have hLok : ∀ y ∈ (x.items ++ [(⟨pickE ((x.cpu % 64 + 1) % 64), 0⟩ : It)]), y.Ok := qb3 hL0 (qdo (by omega))
   exact ⟨(x.cpu % 64), (x.items ++ [(⟨pickE ((x.cpu % 64 + 1) % 64), 0⟩ : It)]), some ⟨gA84, 0, none⟩, c84, (x.opn : Int), 110, HF.sub (by kernel_rfl), HM.picks [2, 0, 1] (by decide) rfl, by omega, (by unfold I64; omega), hLok, by rw [hll]; omega, by rw [hll]; exact hc84, qdp hcp hLok (qq7 (by show (x.cpu % 64 + 1) % 64 ≠ x.cpu % 64; omega)), by decide⟩
  have hd116 := ne_of_beq_false hb116
  refine qe HF rfl (wp_seq (qa ?_))
  refine fp HF 2 0 [(126, .bool (((wy % 7 : Nat) : Int) == (5 : Int)))] fun a HF => ?_
  refine qb rfl ?_
  rcases HF.tf 126 rfl with ⟨hb126, HF⟩ | ⟨hb126, HF⟩
  ·
   have hd126 := eq_of_beq hb126
   refine qf HF rfl (qa ?_)
   refine fp HF 3 0 [(130, vI x.items.length), (129, .slice A84 (x.items.length + 1) c84), (128, .slice A84 (x.items.length + 1) c84)] fun a HF => ?_
   obtain ⟨gA84, rfl⟩ := qa0 (HM.own (i := 2) rfl) (Nat.lt_of_le_of_lt (Nat.zero_le _) (show x.items.length < x.items.length + 1 from by omega))
   refine fy HF HM 3 rfl rfl rfl (v := vP gA84 (x.items.length * 12)) (Yl.ix0 gA84 x.items.length 12 rfl rfl rfl) fun a HF => ?_
   refine fy HF HM 4 rfl rfl rfl (v := .agg ((pickI (x.cpu % 64)).cells)) (Yl.zt rfl rfl si_it rfl (fun _ h => h.qkt qa2 (i := 2) rfl (k := x.items.length) List.getElem?_concat_length)) fun a HF => ?_
   refine fo HF 5 rfl rfl ?_
   refine qad HF HM (vs := [(0, .agg ((pickI (x.cpu % 64)).cells))]) (cs := (pickI (x.cpu % 64)).cells) rfl ei_it (by decide) rfl (by kernel_rfl) rfl (by decide) ?_
   clear HF HM; intro a w133 g133 HF HM
   refine fo HF 6 rfl rfl ?_
   refine zo HF HM (i := 3) rfl ei_it rfl rfl rfl (news := (itL (pickI (x.cpu % 64)))) (HM.rdBlk (i := 0) (n := 1) (size := 12) rfl rfl) (qht _) (by omega) (by omega) rfl (by decide) ?_
   clear HF HM; intro a w134 A134 c134 HF HM hc134
   rw [show ((x.items ++ [pickI (x.cpu % 64)]).flatMap itL) ++ (itL (pickI (x.cpu % 64))) = (x.items ++ [pickI (x.cpu % 64), pickI (x.cpu % 64)]).flatMap itL from by simp] at HM
   refine fp HF 1 7 [(16, .slice A134 (x.items.length + 1 + 1) c134)] fun a HF => ?_
   refine qb rfl ?_
   have hll : (x.items ++ [pickI (x.cpu % 64), pickI (x.cpu % 64)]).length = x.items.length + 1 + 1 := by simp
   replace HM := HM.reRow (i := 3) (ys := (x.items ++ [pickI (x.cpu % 64), pickI (x.cpu % 64)]).flatMap itL) rfl hll.symm rfl
   replace HF := HF.as (t := 16) (u := .slice A134 ((x.items ++ [pickI (x.cpu % 64), pickI (x.cpu % 64)]).length) c134) rfl (by rw [hll])
   have hLok : ∀ y ∈ (x.items ++ [pickI (x.cpu % 64), pickI (x.cpu % 64)]), y.Ok := (by rw [List.append_cons]; exact qb3 (qb3 hL0 (qdo (by omega))) (qdo (by omega)))
   exact ⟨(x.cpu % 64), (x.items ++ [pickI (x.cpu % 64), pickI (x.cpu % 64)]), A134, c134, (x.opn : Int), 110, HF.sub (by kernel_rfl), HM.picks [3, 1, 2] (by decide) rfl, by omega, (by unfold I64; omega), hLok, by rw [hll]; omega, by rw [hll]; exact hc134, qdp hcp hLok qq8, by decide⟩
  have hd126 := ne_of_beq_false hb126
  refine qe HF rfl (qa ?_)
  refine fp HF 2 0 [(91, vB (IntKind.u8.wrap (64 + ((x.cpu % 64 : Nat) : Int))))] fun a HF => ?_
  replace HF := HF.sp 91 (vB (64 + (x.cpu % 64) : Nat)) rfl (qo8 (by omega) (by omega))
  refine fp HF 2 2 [(19, vI 2), (15, vB (64 + (x.cpu % 64) : Nat))] fun a HF => ?_
  refine qb rfl ?_
  have hll : (x.items ++ [pickI (x.cpu % 64)]).length = x.items.length + 1 := by simp
  replace HM := HM.reRow (i := 2) (ys := (x.items ++ [pickI (x.cpu % 64)]).flatMap itL) rfl hll.symm rfl
  replace HF := HF.as (t := 16) (u := .slice A84 ((x.items ++ [pickI (x.cpu % 64)]).length) c84) rfl (by rw [hll])
  have hLok : ∀ y ∈ (x.items ++ [pickI (x.cpu % 64)]), y.Ok := qb3 hL0 (qdo (by omega))
  exact ⟨(64 + x.cpu % 64), (x.items ++ [pickI (x.cpu % 64)]), A84, c84, (x.opn : Int), 2, HF.sub (by kernel_rfl), HM.picks [2, 0, 1] (by decide) rfl, by omega, (by unfold I64; omega), hLok, by rw [hll]; omega, by rw [hll]; exact hc84, qen (by omega), by decide⟩
 clear HF HM; rintro a wW ⟨cp, L, Ai, ci, op, wt, HF, HM, hcp, hop, hLok, hLl, hLc, hcw, hw0⟩
 refine wp_seq (qa ?_)
 refine fp HF 1 0 [(135, vP gw59 0)] fun a HF => ?_
 refine fo HF 1 rfl rfl ?_
 refine e_cl HF [vP gw59 0] rfl rfl (qcx gw59 50 A76 c76 w5 _ (HM.blk (i := 1) rfl) (HM.rd (i := 2) rfl) (by decide) (by decide)) ?_
 rintro _ w136 ⟨⟨A136, c136, rfl, ho, hc136⟩, hbw⟩
 refine ⟨_, rfl, ?_⟩
 replace HM := HM.callRow hbw ho
 clear HF; intro a HF
 refine fp HF 1 2 [(20, .slice A136 w5.length c136)] fun a HF => ?_
 refine qb rfl (wp_seq (qa ?_))
 refine fp HF 4 0 [(141, vI op), (140, .slice Ai L.length ci), (139, vB cp), (138, vP gw59 0)] fun a HF => ?_
 refine fo HF 4 rfl rfl ?_
 refine e_cl HF [vP gw59 0, vB cp, .slice Ai L.length ci, vI op] rfl rfl (qsy _ _ gw59 50 A76 c76 w5 _ (HM.picks [2, 3, 0, 1] (by decide) rfl) (by first | exact Nat.le_refl _ | omega | exact Nat.zero_le _) (by decide) (by decide) (by unfold I64; decide) cp hcp Ai ci L op hLok hop B (hL.mem HM hB) hB (HM.rd (i := 1) rfl) hLc (by omega) (qkg hcw hw0)) ?_
 rintro _ w142 ⟨rfl, A142, c142, hc142, HM2⟩
 refine ⟨_, rfl, ?_⟩
 replace HM := HM2
 clear HF; intro a HF
 refine fp HF 5 5 [(22, vI wt), (21, vI 0)] fun a HF => ?_
 refine qb rfl (wp_seq (qa ?_))
 refine fp HF 3 0 [(148, vI op), (147, .slice Ai L.length ci), (146, vB cp)] fun a HF => ?_
 refine fo HF 3 rfl rfl ?_
 refine e_cl HF [vB cp, .slice Ai L.length ci, vI op, vI 50] rfl rfl (qcw cp hcp Ai L.length ci L op 50 hLok hop (by unfold I64; decide) B _ (hL.mem HM hB) (HM.le hB) (HM.rd (i := 3) rfl) hLc rfl (by omega) hcw) ?_
 rintro _ w149 ⟨A149, c149, q149, rfl, hq149, hc149, hm⟩
 obtain rfl := List.map_eq_nil_iff.1 hq149
 refine ⟨_, rfl, ?_⟩
 replace HM := HM.call hm.below
 clear HF; intro a HF
 refine fp HF 5 4 [(24, vI wt), (23, .slice A149 0 c149)] fun a HF => ?_
 refine qb rfl (wp_seq ?_)
 refine qan HM [.row (.slice A136 w5.length c136) w5.length (w5.map B8) 5 1, .row (.slice Ai L.length ci) L.length (L.flatMap itL) 47 12] [2, 3] [] fun HM HS => ?_
 refine ap HF (fun _ => HS) [0, 1, 2, 3, 4] #[true, true, true, true, true, false, false, false, false, false, false, false, false, false, false, false, false, false, false, false, false, false, false, false, false, false, false, false, false, false, false, false, false, false, false, false, false, false, false, false, false, false, false] [(156, vI wt), (155, vI wt), (154, .bool true)] fun a HF => ?_
 refine qy HF (fun _ => HS) (i := 5) rfl rfl (d := 157) rfl (by decide) (by kernel_rfl) (fun _ _ _ h => h) (v := .bool ((wt : Int) == (wt : Int))) (fun _ => Yl.pure (by kernel_rfl)) fun a HF => ?_
 replace HF := HF.sp 157 (.bool true) rfl (by simp)
 refine ap HF (fun _ => HS) [6, 7, 8, 9] #[true, true, true, true, true, true, true, true, true, true, false, false, false, false, false, false, false, false, false, false, false, false, false, false, false, false, false, false, false, false, false, false, false, false, false, false, false, false, false, false, false, false, false] [(161, vI wt), (160, vI wt), (159, .bool true)] fun a HF => ?_
 refine qy HF (fun _ => HS) (i := 10) rfl rfl (d := 162) rfl (by decide) (by kernel_rfl) (fun _ _ _ h => h) (v := .bool ((wt : Int) == (wt : Int))) (fun _ => Yl.pure (by kernel_rfl)) fun a HF => ?_
 replace HF := HF.sp 162 (.bool true) rfl (by simp)
 refine ap HF (fun _ => HS) [11, 12, 13] #[true, true, true, true, true, true, true, true, true, true, true, true, true, true, false, false, false, false, false, false, false, false, false, false, false, false, false, false, false, false, false, false, false, false, false, false, false, false, false, false, false, false, false] [(165, .slice A149 0 c149), (164, .bool true)] fun a HF => ?_
 refine ay HF HS 14 rfl rfl rfl (Yl.len rfl rfl (by kernel_rfl)) fun a HF => ?_
 refine ap HF (fun _ => HS) [15, 16, 17, 18] #[true, true, true, true, true, true, true, true, true, true, true, true, true, true, true, true, true, true, true, false, false, false, false, false, false, false, false, false, false, false, false, false, false, false, false, false, false, false, false, false, false, false, false] [(170, vP gw59 0), (169, .bool true)] fun a HF => ?_
 refine qj [19] (by kernel_rfl) rfl ?_
 refine all_cons ?_ all_nil
 refine ql HF (i := 19) rfl rfl ?_
 refine e_cl HF [vP gw59 0] rfl rfl (qiw gw59 50 A142 c142 w5 _ (HM.blk (i := 0) rfl) (by decide) qtm) ?_
 rintro _ w171 ⟨rfl, hbw⟩
 refine ⟨_, rfl, ?_⟩
 replace HM := HM.call hbw
 clear HF; intro a HF
 refine keepS (HM.picks [2, 3] (by decide) rfl) (fun HS => ?_)
 refine ap HF (fun _ => HS) [20, 21, 22, 23, 26] #[true, true, true, true, true, true, true, true, true, true, true, true, true, true, true, true, true, true, true, true, true, true, true, true, false, false, true, false, false, false, false, false, false, false, false, false, false, false, false, false, false, false, false] [(178, .slice A136 w5.length c136), (175, vP gw59 0), (174, .bool true)] fun a HF => ?_
 refine ay HF HS 27 rfl rfl rfl (v := .string (bstr w5)) (Yl.str rfl rfl (fun _ h => h.rd (i := 0) rfl)) fun a HF => ?_
 refine qj [24] (by kernel_rfl) rfl ?_
 refine all_cons ?_ all_nil
 refine ql HF (i := 24) rfl rfl ?_
 refine e_cl HF [vP gw59 0] rfl rfl (qcx gw59 50 A142 c142 w5 _ (HM.blk (i := 0) rfl) (HM.rd (i := 1) rfl) (by decide) (by decide)) ?_
 rintro _ w176 ⟨⟨A176, c176, rfl, ho, hc176⟩, hbw⟩
 refine ⟨_, rfl, ?_⟩
 replace HM := HM.callRow hbw ho
 clear HF; intro a HF
 refine keepS (HM.picks [3, 4] (by decide) rfl) (fun HS => ?_)
 refine qj [25] (by kernel_rfl) rfl ?_
 refine all_cons ?_ all_nil
 refine ql HF (i := 25) rfl rfl ?_
 refine Yl.wp (S := fun wS => Mem w wS _) (v := .string (bstr w5)) (Yl.str rfl rfl (fun _ h => h.rd (i := 0) rfl)) HF HM rfl (by decide) fun a HF => ?_
 refine keepS HS (fun HS => ?_)
 refine qy HF (fun _ => HS) (i := 28) rfl rfl (d := 180) rfl (by decide) (by kernel_rfl) (fun _ _ _ h => h) (v := .bool (((bstr w5)).toList == ((bstr w5)).toList)) (fun _ => Yl.pure (by kernel_rfl)) fun a HF => ?_
 replace HF := HF.sp 180 (.bool true) rfl (by rw [qt3])
 refine ap HF (fun _ => HS) [29, 30, 31, 32] #[true, true, true, true, true, true, true, true, true, true, true, true, true, true, true, true, true, true, true, true, true, true, true, true, true, true, true, true, true, true, true, true, true, false, false, false, false, false, false, false, false, false, false] [(184, vI n), (183, vP gw59 0), (182, .bool true)] fun a HF => ?_
 refine ay HF HS 33 rfl rfl rfl (v := vI (if (0 : Int) < (n : Int) then 0 else n)) (Yl.min rfl rfl rfl) fun a HF => ?_
 replace HF := HF.sp 185 (vI z1) rfl (by rw [hz1])
 refine qj [34] (by kernel_rfl) rfl ?_
 refine all_cons ?_ all_nil
 refine ql HF (i := 34) rfl rfl ?_
 refine e_cl HF [vP gw59 0, vI z1] rfl rfl (qft _ _ gw59 50 A142 c142 w5 _ (HM.picks [1, 2, 0, 3, 4] (by decide) rfl) (by first | exact Nat.le_refl _ | omega | exact Nat.zero_le _) (by decide) (by decide) z1 hz1a.2 B (hL.mem HM hB) hB (qq3 hz1a.1 _)) ?_
 rintro _ w186 ⟨rfl, A186, c186, hc186, HM2⟩
 refine ⟨_, rfl, ?_⟩
 replace HM := HM2
 clear HF; intro a HF
 refine keepS (HM.picks [3, 4] (by decide) rfl) (fun HS => ?_)
 refine ap HF (fun _ => HS) [35, 36, 37, 38] #[true, true, true, true, true, true, true, true, true, true, true, true, true, true, true, true, true, true, true, true, true, true, true, true, true, true, true, true, true, true, true, true, true, true, true, true, true, true, true, false, false, false, false] [(190, vP gw59 0), (189, .bool true)] fun a HF => ?_
 refine qj [39] (by kernel_rfl) rfl ?_
 refine all_cons ?_ all_nil
 refine ql HF (i := 39) rfl rfl ?_
 refine e_cl HF [vP gw59 0] rfl rfl (qiw gw59 50 A186 c186 w5 _ (HM.blk (i := 0) rfl) (by decide) qtm) ?_
 rintro _ w191 ⟨rfl, hbw⟩
 refine ⟨_, rfl, ?_⟩
 replace HM := HM.call hbw
 clear HF; intro a HF
 refine keepS (HM.picks [3, 4] (by decide) rfl) (fun HS => ?_)
 refine ap HF (fun _ => HS) [40, 41, 42] #[true, true, true, true, true, true, true, true, true, true, true, true, true, true, true, true, true, true, true, true, true, true, true, true, true, true, true, true, true, true, true, true, true, true, true, true, true, true, true, true, true, true, true] [(6, .bool true)] fun a HF => ?_
 refine qm (by kernel_rfl) ?_
 replace HF := HF.to [(6, .bool true), (16, .slice Ai L.length ci), (17, vI op), (15, vB cp), (13, vP gw59 0), (2, vI n)]
 refine wp_ret ?_
 exact ret1 rfl HF (.tmp HF rfl) (⟨rfl, HM.below⟩)
end Go.Proofs.YtfeheccoijnbaaaDoor
