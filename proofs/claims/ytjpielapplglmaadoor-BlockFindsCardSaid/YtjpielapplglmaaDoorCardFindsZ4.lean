/- Texts laid together: Finds10W. -/
import Derived.Test.YtjpielapplglmaaDoorCardFindsZ3
/- quantumlaw10.BlockFinds answers true. -/
set_option linter.all false
namespace Go.Proofs.YtjpielapplglmaaDoor
open Go.RowKit
theorem si_a3 : SI Tryd.prog 48 3 := ⟨by kernel_rfl, by kernel_rfl⟩
set_option maxRecDepth 100000 in
set_option maxHeartbeats 4000000 in
theorem blockFinds_any (x : Sb) (hx : x.Ok) (A : Option Addr) (c0 : Nat) (ks : List Nat) (hk3 : ks.length = 3) (hku : ∀ i, ks.getD i 0 < 65536) (B : Nat) (w : World) (hL : LaidX B w) (hB : B ≤ w.heap.size) (hr : Rd w w.heap.size 11 A x.l.length (x.l.flatMap smL)) (hc : x.l.length ≤ c0) (hn : x.l.length ≤ 9223372036854775807) :
    Calls Tryd.prog 8 #[.agg (x.cells A c0), .agg (a3L ks)] w (Is w (.bool true)) := by
  refine calls_enter (vs := [.agg (x.cells A c0), .agg (a3L ks)]) Tryd.func8 rfl rfl (by kernel_rfl) (σ0 := [(0, .agg (x.cells A c0)), (1, .agg (a3L ks))]) rfl ?_
  intro a HF
  have HM := Mem.start w
  refine wp_seq ?_
  refine from_start ?_
  refine from_op HF (i := 0) rfl rfl ?_
  refine e_box HF HM (cs := (x.cells A c0)) rfl rfl rfl rfl (by decide) ?_
  clear HF HM; intro a w2 g2 HF HM
  refine from_op HF (i := 1) rfl rfl ?_
  refine e_box HF HM (cs := (a3L ks)) rfl rfl rfl rfl (by decide) ?_
  clear HF HM; intro a w3 g3 HF HM
  refine from_pures HF 1 2 (j := 3) [(4, .bool false)] (by kernel_rfl) rfl ?_; clear HF; intro a HF
  refine from_done rfl ?_
  replace HF := HF.sub (σ' := [(4, .bool false), (3, .pointer (some ⟨g3, 0, none⟩)), (2, .pointer (some ⟨g2, 0, none⟩))]) (by kernel_rfl)
  have hg := made_good hx
  have ho2 := made_out x hx
  have hol := out_lt hg.1
  refine wp_seq ?_
  refine wp_seq ?_
  refine from_start ?_
  refine from_op HF (i := 0) rfl rfl ?_
  refine e_call HF (vs := []) rfl (by kernel_rfl) (by kernel_rfl) rfl (by decide) (bawake_any B _ (hL.mem HM hB) (HM.le hB)) ?_
  rintro _ w18 ⟨rfl, hbw⟩
  refine ⟨_, rfl, ?_⟩
  replace HM := HM.call hbw
  clear HF; intro a HF
  refine from_pures HF 1 1 (j := 2) [(19, .bool false)] (by kernel_rfl) rfl ?_; clear HF; intro a HF
  refine from_done rfl ?_
  replace HF := HF.sub (σ' := [(19, .bool false), (4, .bool false), (3, .pointer (some ⟨g3, 0, none⟩)), (2, .pointer (some ⟨g2, 0, none⟩))]) (by kernel_rfl)
  refine cond_false HF rfl ?_
  refine wp_skip ?_
  refine wp_seq ?_
  refine from_start ?_
  refine from_yl (S := fun wS => Mem w wS _) HF HM (i := 0) rfl rfl (d := 20) rfl (by decide) (v := .agg (x.cells A c0)) (Yl.loadS rfl rfl si_sb rfl (fun _ h => range_of_block (h.blk (i := 1) rfl))) ?_; clear HF; intro a HF
  refine from_op HF (i := 1) rfl rfl ?_
  refine e_call HF (vs := [.agg (x.cells A c0)]) rfl (by kernel_rfl) (by kernel_rfl) rfl (by decide) (bmade_any x hx A c0 _ (HM.old hr) (hc) (hn)) ?_
  rintro _ w21 ⟨⟨A21, c21, rfl, ho, hc21⟩, hbw⟩
  refine ⟨_, rfl, ?_⟩
  replace HM := HM.callRow hbw ho
  clear HF; intro a HF
  refine from_op HF (i := 2) rfl rfl ?_
  refine e_alloc HF HM (cs := #[.int .u8 0, .int .u8 0, .int .i64 0, .int .i64 0, .slice none 0 0]) rfl (by kernel_rfl) rfl (by decide) ?_
  clear HF HM; intro a w5 g5 HF HM
  refine from_op HF (i := 3) rfl rfl ?_
  refine e_storeAll HF HM (i := 0) (cs := #[.int .u8 0, .int .u8 0, .int .i64 0, .int .i64 0, .slice none 0 0]) (ds := (x.made.cells A21 c21)) rfl rfl rfl rfl si_bk rfl rfl (bk_one _ _ _) rfl ?_
  clear HM; intro w3_3 HM
  refine from_done rfl ?_
  replace HF := HF.sub (σ' := [(5, .pointer (some ⟨g5, 0, none⟩)), (19, .bool false), (4, .bool false), (3, .pointer (some ⟨g3, 0, none⟩))]) (by kernel_rfl)
  replace HM := HM.picks (fs' := [.blk g5 (x.made.cells A21 c21) 37, .row (.slice A21 x.made.evs.length c21) x.made.evs.length (x.made.evs.flatMap evL) 55 11, .blk g3 (a3L ks) 48]) [0, 1, 2] (by decide) rfl
  refine wp_seq ?_
  refine from_start ?_
  refine from_yl (S := fun wS => Mem w wS _) HF HM (i := 0) rfl rfl (d := 23) rfl (by decide) (v := .agg (x.made.cells A21 c21)) (Yl.loadS rfl rfl si_bk rfl (fun _ h => range_of_block (h.blk (i := 0) rfl))) ?_; clear HF; intro a HF
  refine from_op HF (i := 1) rfl rfl ?_
  refine e_call HF (vs := [.agg (x.made.cells A21 c21)]) rfl (by kernel_rfl) (by kernel_rfl) rfl (by decide) (bwrite_is x.made hg.1 A21 c21 B _ (hL.mem HM hB) (HM.le hB) (HM.rd (i := 1) rfl) (by have h60 := hg.2.2; omega) (hg.2.1) (rfl)) ?_
  rintro _ w24 ⟨⟨A24, c24, rfl, ho, hc24⟩, hbw⟩
  refine ⟨_, rfl, ?_⟩
  replace HM := HM.callRow hbw ho
  clear HF; intro a HF
  have hcn24 : (x.made.out.length) ≤ c24 := hc24
  refine from_pures HF 5 2 (j := 7) [(7, .int .i64 0), (6, .slice A24 (x.made.out.length) c24), (26, .int .i64 0), (25, .slice A24 (x.made.out.length) c24), (22, .tuple #[.slice A24 (x.made.out.length) c24, .int .i64 0])] (by kernel_rfl) rfl ?_; clear HF; intro a HF
  refine from_done rfl ?_
  replace HF := HF.sub (σ' := [(7, .int .i64 0), (6, .slice A24 (x.made.out.length) c24), (5, .pointer (some ⟨g5, 0, none⟩)), (19, .bool false), (4, .bool false), (3, .pointer (some ⟨g3, 0, none⟩))]) (by kernel_rfl)
  refine wp_seq ?_
  refine wp_seq ?_
  refine from_start ?_
  refine from_pures HF 4 0 (j := 4) [(30, .slice A24 (x.made.out.length) c24), (29, .bool false), (28, .bool false), (27, .int .i64 0)] (by kernel_rfl) rfl ?_; clear HF; intro a HF
  refine from_yl (S := fun wS => Mem w wS _) HF HM (i := 4) rfl rfl (d := 31) rfl (by decide) (v := .int .i64 (((x.made.out.length) : Nat) : Int)) (Yl.len rfl rfl (by kernel_rfl)) ?_; clear HF; intro a HF
  refine from_pures HF 1 5 (j := 6) [(32, .bool (decide (((((x.made.out.length) : Nat) : Int) : Int) < (13 : Int))))] (by kernel_rfl) rfl ?_; clear HF; intro a HF
  replace HF := HF.as (t := 32) (u := .bool false) rfl (by rw [decide_eq_false (by omega)])
  refine from_pures HF 1 6 (j := 7) [(33, .bool false)] (by kernel_rfl) rfl ?_; clear HF; intro a HF
  refine from_done rfl ?_
  replace HF := HF.sub (σ' := [(33, .bool false), (6, .slice A24 (x.made.out.length) c24), (5, .pointer (some ⟨g5, 0, none⟩)), (19, .bool false), (4, .bool false), (3, .pointer (some ⟨g3, 0, none⟩))]) (by kernel_rfl)
  refine cond_false HF rfl ?_
  refine wp_skip ?_
  refine wp_seq ?_
  refine from_start ?_
  refine from_op HF (i := 0) rfl rfl ?_
  refine e_makeMap HF HM rfl rfl (by decide) ?_
  clear HF HM; intro a w34 g34 HF HM
  refine from_pures HF 1 1 (j := 2) [(8, .map (some g34))] (by kernel_rfl) rfl ?_; clear HF; intro a HF
  refine from_done rfl ?_
  replace HF := HF.sub (σ' := [(8, .map (some g34)), (33, .bool false), (6, .slice A24 (x.made.out.length) c24), (5, .pointer (some ⟨g5, 0, none⟩)), (19, .bool false), (4, .bool false), (3, .pointer (some ⟨g3, 0, none⟩))]) (by kernel_rfl)
  refine wp_seq ?_
  refine wp_seq ?_
  refine from_start ?_
  refine from_yl (S := fun wS => Mem w wS _) HF HM (i := 0) rfl rfl (d := 35) rfl (by decide) (v := .agg (a3L ks)) (Yl.loadS rfl rfl si_a3 rfl (fun _ h => range_of_block (h.blk (i := 4) rfl))) ?_; clear HF; intro a HF
  refine from_pures HF 1 1 (j := 2) [(36, .int .i64 0)] (by kernel_rfl) rfl ?_; clear HF; intro a HF
  refine from_done rfl ?_
  replace HF := HF.sub (σ' := [(36, .int .i64 0), (35, .agg (a3L ks)), (8, .map (some g34)), (33, .bool false), (6, .slice A24 (x.made.out.length) c24), (5, .pointer (some ⟨g5, 0, none⟩)), (19, .bool false), (4, .bool false)]) (by kernel_rfl)
  replace HM := HM.picks (fs' := [.obj g34 (.map #[] 0), .row (.slice A24 (x.made.out.length) c24) (x.made.out.length) (x.made.out.map B8) 5 1, .blk g5 (x.made.cells A21 c21) 37, .row (.slice A21 x.made.evs.length c21) x.made.evs.length (x.made.evs.flatMap evL) 55 11]) [0, 1, 2, 3] (by decide) rfl
  replace HM := HM.asRow (i := 1) (ys := (flipsL x.made.out (posL x.made.out.length ks) 0).map B8) rfl rfl
  obtain ⟨gO, hgO⟩ := own_some (HM.own (i := 1) rfl) (by omega)
  subst hgO
  refine wp_block ?_
  refine loop_nat (fun mS aS wS => ∃ (i : Nat) (cm : List (Nat × Nat)), (i ≤ 3) ∧ (sumL2 cm = i) ∧ (cm.length ≤ i) ∧ mS = 3 - i ∧ Fr aS 94 [] [(36, .int .i64 (i : Int)), (35, .agg (a3L ks)), (8, .map (some g34)), (33, .bool false), (6, .slice (some ⟨gO, 0, none⟩) (x.made.out.length) c24), (5, .pointer (some ⟨g5, 0, none⟩)), (19, .bool false), (4, .bool false)] ∧ Mem w wS [.obj g34 (.map (mapA cm) cm.length), .row (.slice (some ⟨gO, 0, none⟩) (x.made.out.length) c24) (x.made.out.length) ((flipsL x.made.out (posL x.made.out.length ks) i).map B8) 5 1, .blk g5 (x.made.cells A21 c21) 37, .row (.slice A21 x.made.evs.length c21) x.made.evs.length (x.made.evs.flatMap evL) 55 11]) (m := 3 - 0) ⟨0, [], Nat.zero_le _, rfl, Nat.le_refl _, rfl, HF.sub (by kernel_rfl), HM.picks [0, 1, 2, 3] (by decide) rfl⟩ ?_
  clear HF HM; rintro mS a w_ ⟨i, cm, hi, hs, hl, rfl, HF, HM⟩
  refine wp_seq ?_
  refine from_start ?_
  refine from_pures HF 1 0 (j := 1) [(37, .bool (decide (((i : Int) : Int) < (3 : Int))))] (by kernel_rfl) rfl ?_; clear HF; intro a HF
  refine from_done rfl ?_
  refine wp_seq ?_
  rcases Bool.eq_false_or_eq_true (decide (((i : Int) : Int) < (3 : Int))) with hb37 | hb37
  · have HF := HF.as (t := 37) (u := .bool true) rfl (by rw [hb37])
    have hd37 := of_decide_eq_true hb37
    have hi3 : i < 3 := by omega
    have hbl := flipsL_lt hol (posL x.made.out.length ks) i
    have hbn := flipsL_len x.made.out (posL x.made.out.length ks) i
    obtain ⟨p, hp⟩ : ∃ p, p = (posL x.made.out.length ks).getD i 0 := ⟨_, rfl⟩
    have hp1 := posL_ok ho2.1 hk3 i hi3
    have hp2 := posL_at (n := x.made.out.length) (ks := ks) (i := i) (by omega)
    rw [← hp] at hp1 hp2
    have hbt := bit_lt p
    have hvl := valL_le cm p
    have hku := hku i
    refine cond_true HF rfl ?_
    refine wp_skip ?_
    refine wp_seq ?_
    refine wp_block ?_
    refine wp_seq ?_
    refine from_start ?_
    refine from_yl (S := fun wS => Mem w wS _) HF HM (i := 0) rfl rfl (d := 38) rfl (by decide) (v := .int .u16 ((ks.getD i 0 : Nat) : Int)) (Yl.indexA (m := 3) (y := i) rfl rfl rfl (by kernel_rfl) (by omega) (a3L_at ks (by omega))) ?_; clear HF; intro a HF
    refine from_pures HF 1 1 (j := 2) [(10, .int .u16 ((ks.getD i 0 : Nat) : Int))] (by kernel_rfl) rfl ?_; clear HF; intro a HF
    refine from_done rfl ?_
    replace HF := HF.sub (σ' := [(10, .int .u16 ((ks.getD i 0 : Nat) : Int)), (37, .bool true), (36, .int .i64 (i : Int)), (35, .agg (a3L ks)), (8, .map (some g34)), (33, .bool false), (6, .slice (some ⟨gO, 0, none⟩) (x.made.out.length) c24), (5, .pointer (some ⟨g5, 0, none⟩)), (19, .bool false), (4, .bool false)]) (by kernel_rfl)
    refine wp_seq ?_
    refine from_start ?_
    refine from_pures HF 2 0 (j := 2) [(40, .int .i64 (IntKind.i64.wrap ((ks.getD i 0 : Nat) : Int))), (39, .int .u16 ((ks.getD i 0 : Nat) : Int))] (by kernel_rfl) rfl ?_; clear HF; intro a HF
    replace HF := HF.as (t := 40) (u := .int .i64 ((ks.getD i 0 : Nat) : Int)) rfl (i64_nat rfl (by omega))
    refine from_pures HF 1 2 (j := 3) [(41, .slice (some ⟨gO, 0, none⟩) (x.made.out.length) c24)] (by kernel_rfl) rfl ?_; clear HF; intro a HF
    refine from_yl (S := fun wS => Mem w wS _) HF HM (i := 3) rfl rfl (d := 42) rfl (by decide) (v := .int .i64 (((x.made.out.length) : Nat) : Int)) (Yl.len rfl rfl (by kernel_rfl)) ?_; clear HF; intro a HF
    refine from_pures HF 1 4 (j := 5) [(43, .int .i64 (IntKind.i64.wrap (8 * (((x.made.out.length) : Nat) : Int))))] (by kernel_rfl) rfl ?_; clear HF; intro a HF
    replace HF := HF.as (t := 43) (u := .int .i64 ((8 * (x.made.out.length) : Nat) : Int)) rfl (i64_nat (by omega) (by omega))
    refine from_pures HF 1 5 (j := 6) [(44, .int .i64 (IntKind.i64.wrap (((8 * (x.made.out.length) : Nat) : Int) - 32)))] (by kernel_rfl) rfl ?_; clear HF; intro a HF
    replace HF := HF.as (t := 44) (u := .int .i64 ((8 * (x.made.out.length) - 32 : Nat) : Int)) rfl (i64_nat (by omega) (by omega))
    refine from_yl (S := fun wS => Mem w wS _) HF HM (i := 6) rfl rfl (d := 45) rfl (by decide) (v := .int .i64 (((ks.getD i 0) % (8 * (x.made.out.length) - 32) : Nat) : Int)) (Yl.remN (m := (ks.getD i 0)) (n := (8 * (x.made.out.length) - 32)) rfl rfl rfl (by omega)) ?_; clear HF; intro a HF
    refine from_pures HF 1 7 (j := 8) [(46, .int .i64 (IntKind.i64.wrap (32 + (((ks.getD i 0) % (8 * (x.made.out.length) - 32) : Nat) : Int))))] (by kernel_rfl) rfl ?_; clear HF; intro a HF
    replace HF := HF.as (t := 46) (u := .int .i64 (p : Int)) rfl (i64_nat (by omega) (by omega))
    refine from_pures HF 1 8 (j := 9) [(11, .int .i64 (p : Int))] (by kernel_rfl) rfl ?_; clear HF; intro a HF
    refine from_done rfl ?_
    replace HF := HF.sub (σ' := [(11, .int .i64 (p : Int)), (10, .int .u16 ((ks.getD i 0 : Nat) : Int)), (37, .bool true), (36, .int .i64 (i : Int)), (35, .agg (a3L ks)), (8, .map (some g34)), (33, .bool false), (6, .slice (some ⟨gO, 0, none⟩) (x.made.out.length) c24), (5, .pointer (some ⟨g5, 0, none⟩)), (19, .bool false), (4, .bool false)]) (by kernel_rfl)
    refine wp_seq ?_
    refine any_start (by kernel_rfl) (fun wS => Mem w wS [.obj g34 (.map (mapA cm) cm.length), .row (.slice (some ⟨gO, 0, none⟩) (x.made.out.length) c24) (x.made.out.length) ((flipsL x.made.out (posL x.made.out.length ks) i).map B8) 5 1, .blk g5 (x.made.cells A21 c21) 37, .row (.slice A21 x.made.evs.length c21) x.made.evs.length (x.made.evs.flatMap evL) 55 11]) [10] ?_
    replace HM := HM.drew
    have HS := HM.picks (fs' := [.obj g34 (.map (mapA cm) cm.length), .row (.slice (some ⟨gO, 0, none⟩) (x.made.out.length) c24) (x.made.out.length) ((flipsL x.made.out (posL x.made.out.length ks) i).map B8) 5 1, .blk g5 (x.made.cells A21 c21) 37, .row (.slice A21 x.made.evs.length c21) x.made.evs.length (x.made.evs.flatMap evL) 55 11]) [0, 1, 2, 3] (by decide) rfl
    refine any_pures HF (fun _ => HS) (fun _ _ d _ _ h => by cases d <;> exact h) [0, 1, 5] #[true, true, false, false, false, true, false, false, false, false, false] [(52, .int .i64 (p : Int)), (48, .int .i64 (p : Int)), (47, .slice (some ⟨gO, 0, none⟩) (x.made.out.length) c24)] (by kernel_rfl) ?_; clear HF; intro a HF
    refine any_pure HF (fun _ => HS) (i := 2) rfl rfl (d := 49) rfl (by decide) (by kernel_rfl) (fun _ _ _ h => h) (v := .int .i64 (IntKind.i64.wrap (Int.tdiv (p : Int) 8))) (fun _ => Yl.pure (by kernel_rfl)) ?_; clear HF; intro a HF
    replace HF := HF.as (t := 49) (u := .int .i64 ((p / 8 : Nat) : Int)) rfl (tdiv_nat .i64 8 (by show _ ≤ 9223372036854775807; omega))
    refine any_yl HF HS (i := 3) rfl rfl (d := 50) rfl (by decide) (by kernel_rfl) (fun _ _ _ h => h) (v := .pointer (some ⟨gO, (p / 8) * 1, none⟩)) ((Yl.indexAddr (ad := ⟨gO, 0, none⟩) (y := p / 8) (sz := 1) rfl rfl rfl (by omega) (by kernel_rfl)).as (by rw [Addr.add_mid, Nat.zero_add])) ?_; clear HF; intro a HF
    have hx148 := getD_lt hbl (k := (p / 8)) (by first | omega | (simp; omega))
    refine any_yl HF HS (i := 4) rfl rfl (d := 51) rfl (by decide) (by kernel_rfl) (fun _ _ _ h => h) (v := .int .u8 (((flipsL x.made.out (posL x.made.out.length ks) i).getD (p / 8) 0) : Int)) (Yl.load1 rfl rfl (by kernel_rfl) (fun _ h => h.rowOne (i := 1) rfl (k := (p / 8)) (map_at (F := B8) (k := (p / 8)) (x := ((flipsL x.made.out (posL x.made.out.length ks) i).getD (p / 8) 0)) ((getD_at 0 (k := (p / 8)) (by first | omega | (simp; omega))))))) ?_; clear HF; intro a HF
    refine any_pure HF (fun _ => HS) (i := 6) rfl rfl (d := 53) rfl (by decide) (by kernel_rfl) (fun _ _ _ h => h) (v := .int .i64 (Int.tmod (p : Int) 8)) (fun _ => Yl.pure (by kernel_rfl)) ?_; clear HF; intro a HF
    replace HF := HF.as (t := 53) (u := .int .i64 ((p % 8 : Nat) : Int)) rfl (tmod_nat .i64 _ 8)
    refine any_yl HF HS (i := 7) rfl rfl (d := 54) rfl (by decide) (by kernel_rfl) (fun _ _ _ h => h) (v := .int .u8 ((1 * 2 ^ (p % 8) : Nat) : Int)) (Yl.shlN (m := 1) (n := (p % 8)) rfl rfl rfl (by show _ ≤ 8; omega) (by have := bit_lt p; show _ ≤ 255; omega)) ?_; clear HF; intro a HF
    refine any_pure HF (fun _ => HS) (i := 8) rfl rfl (d := 55) rfl (by decide) (by kernel_rfl) (fun _ _ _ h => h) (v := .int .u8 (IntKind.u8.wrap (BitVec.ofInt (IntKind.u8).bits (((flipsL x.made.out (posL x.made.out.length ks) i).getD (p / 8) 0) : Int) ^^^ BitVec.ofInt (IntKind.u8).bits ((1 * 2 ^ (p % 8) : Nat) : Int)).toNat)) (fun _ => Yl.pure (by kernel_rfl)) ?_; clear HF; intro a HF
    replace HF := HF.as (t := 55) (u := .int .u8 ((((flipsL x.made.out (posL x.made.out.length ks) i).getD (p / 8) 0) ^^^ (1 * 2 ^ (p % 8)) : Nat) : Int)) rfl (xor_u8 (m := ((flipsL x.made.out (posL x.made.out.length ks) i).getD (p / 8) 0)) (n := 1 * 2 ^ (p % 8)) (by omega) (by omega))
    refine any_yl HF HS (i := 9) rfl rfl (d := 56) rfl (by decide) (by kernel_rfl) (fun _ _ _ h => h) (v := .pointer (some ⟨gO, (p / 8) * 1, none⟩)) ((Yl.indexAddr (ad := ⟨gO, 0, none⟩) (y := p / 8) (sz := 1) rfl rfl rfl (by omega) (by kernel_rfl)).as (by rw [Addr.add_mid, Nat.zero_add])) ?_; clear HF; intro a HF
    refine any_all [10] (by kernel_rfl) rfl ?_
    refine all_cons ?_ all_nil
    refine any_op HF (i := 10) rfl rfl ?_
    refine e_storeRow HF HM (i := 1) rfl rfl rfl rfl (by kernel_rfl) rfl rfl (by simp only [List.length_map]; rw [flipsL_len]; omega) ?_
    clear HM; intro w12_10 HM
    replace HM := HM.asRow (i := 1) (ys := (flipsL x.made.out (posL x.made.out.length ks) (i + 1)).map B8) rfl ((putAt_one B8 _ (p / 8) _ (by omega)).trans (by rw [flipsL, ← hp, Nat.one_mul]; rfl))
    refine noS (by kernel_rfl) ?_
    refine any_done (by kernel_rfl) ?_
    replace HF := HF.sub (σ' := [(11, .int .i64 (p : Int)), (10, .int .u16 ((ks.getD i 0 : Nat) : Int)), (37, .bool true), (36, .int .i64 (i : Int)), (35, .agg (a3L ks)), (8, .map (some g34)), (33, .bool false), (6, .slice (some ⟨gO, 0, none⟩) (x.made.out.length) c24), (5, .pointer (some ⟨g5, 0, none⟩)), (19, .bool false), (4, .bool false)]) (by kernel_rfl)
    refine from_start ?_
    refine from_pures HF 2 0 (j := 2) [(58, .int .i64 (p : Int)), (57, .map (some g34))] (by kernel_rfl) rfl ?_; clear HF; intro a HF
    refine from_yl (S := fun wS => Mem w wS _) HF HM (i := 2) rfl rfl (d := 59) rfl (by decide) (v := .int .i64 ((valL p cm : Nat) : Int)) (Yl.lookupL (kt := 3) (et := 3) (i := 0) (k := p) (l := cm) rfl (by kernel_rfl) (by kernel_rfl) (by kernel_rfl) rfl rfl rfl) ?_; clear HF; intro a HF
    refine from_pures HF 1 3 (j := 4) [(60, .int .i64 (IntKind.i64.wrap (((valL p cm : Nat) : Int) + 1)))] (by kernel_rfl) rfl ?_; clear HF; intro a HF
    replace HF := HF.as (t := 60) (u := .int .i64 ((valL p cm + 1 : Nat) : Int)) rfl (i64_nat (by omega) (by omega))
    refine from_op HF (i := 4) rfl rfl ?_
    refine e_mapSetL HF HM (i := 0) (kt := 3) (et := 3) (k := p) (v := valL p cm + 1) (l := cm) (Or.inl rfl) rfl (by kernel_rfl) (by kernel_rfl) rfl rfl rfl rfl ?_
    clear HM; intro w13_4 HM
    refine from_done rfl ?_
    replace HF := HF.sub (σ' := [(11, .int .i64 (p : Int)), (10, .int .u16 ((ks.getD i 0 : Nat) : Int)), (37, .bool true), (36, .int .i64 (i : Int)), (35, .agg (a3L ks)), (8, .map (some g34)), (33, .bool false), (6, .slice (some ⟨gO, 0, none⟩) (x.made.out.length) c24), (5, .pointer (some ⟨g5, 0, none⟩)), (19, .bool false), (4, .bool false)]) (by kernel_rfl)
    refine from_start ?_
    refine from_pures HF 1 0 (j := 1) [(61, .int .i64 (IntKind.i64.wrap ((i : Int) + 1)))] (by kernel_rfl) rfl ?_; clear HF; intro a HF
    replace HF := HF.as (t := 61) (u := .int .i64 ((i + 1 : Nat) : Int)) rfl (i64_nat (by omega) (by omega))
    refine from_pures HF 1 1 (j := 2) [(36, .int .i64 ((i + 1 : Nat) : Int))] (by kernel_rfl) rfl ?_; clear HF; intro a HF
    refine from_done rfl ?_
    replace HF := HF.sub (σ' := [(36, .int .i64 ((i + 1 : Nat) : Int)), (11, .int .i64 (p : Int)), (10, .int .u16 ((ks.getD i 0 : Nat) : Int)), (37, .bool true), (35, .agg (a3L ks)), (8, .map (some g34)), (33, .bool false), (6, .slice (some ⟨gO, 0, none⟩) (x.made.out.length) c24), (5, .pointer (some ⟨g5, 0, none⟩)), (19, .bool false), (4, .bool false)]) (by kernel_rfl)
    exact ⟨_, (by omega), i + 1, setL p (valL p cm + 1) cm, by omega, by rw [sumL2_set]; omega, Nat.le_trans (setL_len_le _ _ _) (by omega), rfl, HF.sub (by kernel_rfl), HM.picks [0, 1, 2, 3] (by decide) rfl⟩
  · have HF := HF.as (t := 37) (u := .bool false) rfl (by rw [hb37])
    have hd37 := of_decide_eq_false hb37
    obtain rfl : i = 3 := by omega
    refine cond_false HF rfl ?_
    refine wp_exit ?_
    refine wp_seq ?_
    refine from_start ?_
    refine from_pures HF 1 0 (j := 1) [(12, .int .i64 0)] (by kernel_rfl) rfl ?_; clear HF; intro a HF
    refine from_done rfl ?_
    replace HF := HF.sub (σ' := [(12, .int .i64 0), (37, .bool false), (36, .int .i64 (3 : Int)), (35, .agg (a3L ks)), (8, .map (some g34)), (33, .bool false), (6, .slice (some ⟨gO, 0, none⟩) (x.made.out.length) c24), (5, .pointer (some ⟨g5, 0, none⟩)), (19, .bool false), (4, .bool false)]) (by kernel_rfl)
    refine wp_seq ?_
    refine wp_seq ?_
    refine from_start ?_
    refine from_pures HF 1 0 (j := 1) [(62, .map (some g34))] (by kernel_rfl) rfl ?_; clear HF; intro a HF
    refine from_op HF (i := 1) rfl rfl ?_
    refine e_range HF HM (i := 0) (kt := 3) (et := 3) (l := cm) rfl rfl (by decide) (by kernel_rfl) rfl rfl ?_
    clear HF HM; intro a w63 g63 HF HM
    refine from_done rfl ?_
    replace HF := HF.sub (σ' := [(63, .pointer (some ⟨g63, 0, none⟩)), (12, .int .i64 0), (37, .bool false), (36, .int .i64 (3 : Int)), (35, .agg (a3L ks)), (8, .map (some g34)), (33, .bool false), (6, .slice (some ⟨gO, 0, none⟩) (x.made.out.length) c24), (5, .pointer (some ⟨g5, 0, none⟩)), (19, .bool false), (4, .bool false)]) (by kernel_rfl)
    refine wp_block ?_
    refine loop_nat (fun mS aS wS => ∃ (seen : Array Nat) (cn : Nat), (Counted cm seen cn) ∧ mS = (leftOf (mapA cm) seen).size ∧ Fr aS 94 [] [(63, .pointer (some ⟨g63, 0, none⟩)), (12, .int .i64 (cn : Int)), (37, .bool false), (36, .int .i64 (3 : Int)), (35, .agg (a3L ks)), (8, .map (some g34)), (33, .bool false), (6, .slice (some ⟨gO, 0, none⟩) (x.made.out.length) c24), (5, .pointer (some ⟨g5, 0, none⟩)), (19, .bool false), (4, .bool false)] ∧ Mem w wS [.obj g63 (.mapIter (some g34) cm.length seen cm.length), .obj g34 (.map (mapA cm) cm.length), .row (.slice (some ⟨gO, 0, none⟩) (x.made.out.length) c24) (x.made.out.length) ((flipsL x.made.out (posL x.made.out.length ks) 3).map B8) 5 1, .blk g5 (x.made.cells A21 c21) 37, .row (.slice A21 x.made.evs.length c21) x.made.evs.length (x.made.evs.flatMap evL) 55 11]) (m := (leftOf (mapA cm) #[]).size) ⟨#[], 0, counted_0 cm, rfl, HF.sub (by kernel_rfl), HM.picks [0, 1, 2, 3, 4] (by decide) rfl⟩ ?_
    clear HF HM; rintro mS a w_ ⟨seen, cn, hcn, rfl, HF, HM⟩
    refine wp_seq ?_
    refine from_start ?_
    refine from_op HF (i := 0) rfl rfl ?_
    refine e_next HF HM (i := 1) (j := 0) (g := g34) (r := g63) (seen := seen) (l := cm) rfl rfl (by decide) rfl rfl rfl ?_ ?_
    ·
      clear HF HM; intro a w64 hleft HF HM
      have hce := counted_end hcn hleft
      refine from_pures HF 1 1 (j := 2) [(65, .bool false)] (by kernel_rfl) rfl ?_; clear HF; intro a HF
      refine from_done rfl ?_
      replace HF := HF.sub (σ' := [(65, .bool false), (63, .pointer (some ⟨g63, 0, none⟩)), (12, .int .i64 (cn : Int)), (37, .bool false), (36, .int .i64 (3 : Int)), (35, .agg (a3L ks)), (8, .map (some g34)), (33, .bool false), (6, .slice (some ⟨gO, 0, none⟩) (x.made.out.length) c24), (5, .pointer (some ⟨g5, 0, none⟩)), (19, .bool false), (4, .bool false)]) (by kernel_rfl)
      refine wp_seq ?_
      refine cond_false HF rfl ?_
      refine wp_exit ?_
      refine wp_seq ?_
      refine from_start ?_
      refine from_pures HF 1 0 (j := 1) [(73, .slice (some ⟨gO, 0, none⟩) (x.made.out.length) c24)] (by kernel_rfl) rfl ?_; clear HF; intro a HF
      refine from_op HF (i := 1) rfl rfl ?_
      refine e_call HF (vs := [.slice (some ⟨gO, 0, none⟩) (x.made.out.length) c24]) rfl (by kernel_rfl) (by kernel_rfl) rfl (by decide) (bread_is (some ⟨gO, 0, none⟩) (x.made.out.length) c24 (flipsL x.made.out (posL x.made.out.length ks) 3) B _ (hL.mem HM hB) (HM.le hB) (HM.rd (i := 2) rfl) (by omega) (flipsL_len _ _ _) (by omega) ((flipsL_lt hol (posL x.made.out.length ks) 3)) (three_read hg.2.1 hol ho2.2 (posL_ok ho2.1 hk3))) ?_
      rintro _ w74 ⟨⟨A74, c74, rfl, ho, hc74⟩, hbw⟩
      refine ⟨_, rfl, ?_⟩
      replace HM := HM.callRow hbw ho
      clear HF; intro a HF
      refine from_pures HF 4 2 (j := 6) [(77, .int .i64 102), (76, .int .i64 0), (75, .agg #[.int .u8 0, .int .u8 0, .int .i64 0, .int .i64 0, .slice A74 0 c74]), (72, .tuple #[.agg #[.int .u8 0, .int .u8 0, .int .i64 0, .int .i64 0, .slice A74 0 c74], .int .i64 0, .int .i64 102])] (by kernel_rfl) rfl ?_; clear HF; intro a HF
      refine from_op HF (i := 6) rfl rfl ?_
      refine e_alloc HF HM (cs := #[.int .u8 0, .int .u8 0, .int .i64 0, .int .i64 0, .slice none 0 0]) rfl (by kernel_rfl) rfl (by decide) ?_
      clear HF HM; intro a w15 g15 HF HM
      refine from_op HF (i := 7) rfl rfl ?_
      refine e_storeAll HF HM (i := 0) (cs := #[.int .u8 0, .int .u8 0, .int .i64 0, .int .i64 0, .slice none 0 0]) (ds := #[.int .u8 0, .int .u8 0, .int .i64 0, .int .i64 0, .slice A74 0 c74]) rfl rfl rfl rfl si_bk rfl rfl (by simp [Value.oneCell']) rfl ?_
      clear HM; intro w20_7 HM
      refine from_pures HF 2 8 (j := 10) [(17, .int .i64 102), (16, .int .i64 0)] (by kernel_rfl) rfl ?_; clear HF; intro a HF
      refine from_done rfl ?_
      replace HF := HF.sub (σ' := [(17, .int .i64 102), (15, .pointer (some ⟨g15, 0, none⟩)), (65, .bool false), (63, .pointer (some ⟨g63, 0, none⟩)), (12, .int .i64 (cn : Int)), (37, .bool false), (36, .int .i64 (3 : Int)), (35, .agg (a3L ks)), (8, .map (some g34)), (33, .bool false), (6, .slice (some ⟨gO, 0, none⟩) (x.made.out.length) c24), (5, .pointer (some ⟨g5, 0, none⟩)), (19, .bool false), (4, .bool false)]) (by kernel_rfl)
      refine wp_seq ?_
      refine wp_seq ?_
      refine from_start ?_
      refine from_pures HF 2 0 (j := 2) [(79, .bool (((cn : Int) : Int) == (0 : Int))), (78, .int .i64 (cn : Int))] (by kernel_rfl) rfl ?_; clear HF; intro a HF
      replace HF := HF.as (t := 79) (u := .bool false) rfl (by rw [beq_eq_false_iff_ne.2 (by omega)])
      refine from_done rfl ?_
      replace HF := HF.sub (σ' := [(79, .bool false), (17, .int .i64 102), (15, .pointer (some ⟨g15, 0, none⟩)), (65, .bool false), (63, .pointer (some ⟨g63, 0, none⟩)), (12, .int .i64 (cn : Int)), (37, .bool false), (36, .int .i64 (3 : Int)), (35, .agg (a3L ks)), (8, .map (some g34)), (33, .bool false), (6, .slice (some ⟨gO, 0, none⟩) (x.made.out.length) c24), (5, .pointer (some ⟨g5, 0, none⟩)), (19, .bool false), (4, .bool false)]) (by kernel_rfl)
      refine cond_false HF rfl ?_
      refine wp_skip ?_
      refine wp_seq ?_
      refine from_start ?_
      refine from_pures HF 3 0 (j := 3) [(89, .bool true), (88, .bool true), (87, .int .i64 102)] (by kernel_rfl) rfl ?_; clear HF; intro a HF
      refine from_yl (S := fun wS => Mem w wS _) HF HM (i := 3) rfl rfl (d := 90) rfl (by decide) (v := .agg #[.int .u8 0, .int .u8 0, .int .i64 0, .int .i64 0, .slice A74 0 c74]) (Yl.loadS rfl rfl si_bk rfl (fun _ h => range_of_block (h.blk (i := 0) rfl))) ?_; clear HF; intro a HF
      refine from_yl (S := fun wS => Mem w wS _) HF HM (i := 4) rfl rfl (d := 91) rfl (by decide) (v := .agg #[.int .u8 0, .int .u8 0, .int .i64 0, .int .i64 0, .slice none 0 0]) (Yl.build (vs := []) rfl (by kernel_rfl) (by kernel_rfl)) ?_; clear HF; intro a HF
      refine from_op HF (i := 5) rfl rfl ?_
      refine e_call HF (vs := [.agg #[.int .u8 0, .int .u8 0, .int .i64 0, .int .i64 0, .slice A74 0 c74], .agg #[.int .u8 0, .int .u8 0, .int .i64 0, .int .i64 0, .slice none 0 0]]) rfl (by kernel_rfl) (by kernel_rfl) rfl (by decide) (same_any Bk.zero Bk.zero A74 none c74 0 _ Rd.nil Rd.nil (by decide)) ?_
      rintro _ w92 ⟨rfl, hbw⟩
      refine ⟨_, rfl, ?_⟩
      replace HM := HM.call hbw
      clear HF; intro a HF
      refine from_pures HF 1 6 (j := 7) [(93, .bool (decide (Bk.zero = Bk.zero)))] (by kernel_rfl) rfl ?_; clear HF; intro a HF
      replace HF := HF.as (t := 93) (u := .bool true) rfl (by rw [decide_eq_true rfl])
      refine from_pures HF 1 7 (j := 8) [(4, .bool true)] (by kernel_rfl) rfl ?_; clear HF; intro a HF
      refine from_done rfl ?_
      replace HF := HF.sub (σ' := [(4, .bool true), (79, .bool false), (17, .int .i64 102), (15, .pointer (some ⟨g15, 0, none⟩)), (65, .bool false), (63, .pointer (some ⟨g63, 0, none⟩)), (12, .int .i64 (cn : Int)), (37, .bool false), (36, .int .i64 (3 : Int)), (35, .agg (a3L ks)), (8, .map (some g34)), (33, .bool false), (6, .slice (some ⟨gO, 0, none⟩) (x.made.out.length) c24), (5, .pointer (some ⟨g5, 0, none⟩)), (19, .bool false)]) (by kernel_rfl)
      refine wp_ret ?_
      exact ret1 rfl HF (.tmp HF rfl) (⟨rfl, HM.below⟩)
    ·
      clear HF HM; intro a w64 xk64 vk64 bk64 he64 HF HM
      have hcf := hcn.few
      have hvl := left_val he64
      refine from_pures HF 1 1 (j := 2) [(65, .bool true)] (by kernel_rfl) rfl ?_; clear HF; intro a HF
      refine from_done rfl ?_
      replace HF := HF.sub (σ' := [(65, .bool true), (63, .pointer (some ⟨g63, 0, none⟩)), (12, .int .i64 (cn : Int)), (37, .bool false), (36, .int .i64 (3 : Int)), (35, .agg (a3L ks)), (8, .map (some g34)), (33, .bool false), (6, .slice (some ⟨gO, 0, none⟩) (x.made.out.length) c24), (5, .pointer (some ⟨g5, 0, none⟩)), (19, .bool false), (4, .bool false)]) (by kernel_rfl)
      refine wp_seq ?_
      refine cond_true HF rfl ?_
      refine wp_skip ?_
      refine wp_block ?_
      refine wp_seq ?_
      refine from_start ?_
      refine from_yl (S := fun wS => Mem w wS _) HF HM (i := 0) rfl rfl (d := 66) rfl (by decide) (v := .tuple #[.int .i64 (xk64 : Int), .int .i64 (vk64 : Int)]) (Yl.entryL (i := 1) (j := 0) (g := g34) (r := g63) (b := bk64) (seen := seen) (l := cm) rfl rfl rfl rfl he64) ?_; clear HF; intro a HF
      refine from_pures HF 2 1 (j := 3) [(14, .int .i64 (vk64 : Int)), (67, .int .i64 (vk64 : Int))] (by kernel_rfl) rfl ?_; clear HF; intro a HF
      refine from_done rfl ?_
      replace HF := HF.sub (σ' := [(14, .int .i64 (vk64 : Int)), (65, .bool true), (63, .pointer (some ⟨g63, 0, none⟩)), (12, .int .i64 (cn : Int)), (37, .bool false), (36, .int .i64 (3 : Int)), (35, .agg (a3L ks)), (8, .map (some g34)), (33, .bool false), (6, .slice (some ⟨gO, 0, none⟩) (x.made.out.length) c24), (5, .pointer (some ⟨g5, 0, none⟩)), (19, .bool false), (4, .bool false)]) (by kernel_rfl)
      refine from_start ?_
      refine from_pures HF 3 0 (j := 3) [(70, .int .i64 (Int.tmod (vk64 : Int) 2)), (69, .int .i64 (vk64 : Int)), (68, .int .i64 (cn : Int))] (by kernel_rfl) rfl ?_; clear HF; intro a HF
      replace HF := HF.as (t := 70) (u := .int .i64 ((vk64 % 2 : Nat) : Int)) rfl (tmod_nat .i64 _ 2)
      refine from_pures HF 1 3 (j := 4) [(71, .int .i64 (IntKind.i64.wrap ((cn : Int) + ((vk64 % 2 : Nat) : Int))))] (by kernel_rfl) rfl ?_; clear HF; intro a HF
      replace HF := HF.as (t := 71) (u := .int .i64 ((cn + (vk64 % 2) : Nat) : Int)) rfl (i64_nat (by omega) (by omega))
      refine from_pures HF 1 4 (j := 5) [(12, .int .i64 ((cn + (vk64 % 2) : Nat) : Int))] (by kernel_rfl) rfl ?_; clear HF; intro a HF
      refine from_done rfl ?_
      replace HF := HF.sub (σ' := [(12, .int .i64 ((cn + (vk64 % 2) : Nat) : Int)), (14, .int .i64 (vk64 : Int)), (65, .bool true), (63, .pointer (some ⟨g63, 0, none⟩)), (37, .bool false), (36, .int .i64 (3 : Int)), (35, .agg (a3L ks)), (8, .map (some g34)), (33, .bool false), (6, .slice (some ⟨gO, 0, none⟩) (x.made.out.length) c24), (5, .pointer (some ⟨g5, 0, none⟩)), (19, .bool false), (4, .bool false)]) (by kernel_rfl)
      exact ⟨_, (counted_next hcn he64).2, seen.push bk64, cn + vk64 % 2, (counted_next hcn he64).1, rfl, HF.sub (by kernel_rfl), HM.picks [0, 1, 2, 3, 4] (by decide) rfl⟩
end Go.Proofs.YtjpielapplglmaaDoor

