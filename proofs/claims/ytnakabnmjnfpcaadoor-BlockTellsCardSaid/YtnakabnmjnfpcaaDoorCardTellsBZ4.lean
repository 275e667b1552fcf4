/- Texts laid together: R10bW, R10cW, R10dW, LR10W, LR10T. -/
import Derived.Test.YtnakabnmjnfpcaaDoorCardTellsBZ3
set_option linter.all false
namespace Go.Proofs.YtnakabnmjnfpcaaDoor
open Go.RowKit
theorem flatTake {α : Type} (f : α → List Value) (sz : Nat) (hf : ∀ x, (f x).length = sz) : ∀ (l : List α) (k : Nat), (l.flatMap f).take (k * sz) = (l.take k).flatMap f
  | [], _ => by simp
  | _ :: _, 0 => by simp
  | x :: l, k + 1 => by
    rw [List.flatMap_cons, List.take_succ_cons, List.flatMap_cons, List.take_append, List.take_of_length_le (by rw [hf, Nat.succ_mul]; omega), hf, ← flatTake f sz hf l k]
    congr 2
    rw [Nat.succ_mul]; omega
theorem rdTake {w : World} {B m : Nat} {A : Option Addr} {l : List Ev} (h : Rd w B 11 A l.length (l.flatMap evL)) (hm : m ≤ l.length) : Rd w B 11 A m ((l.take m).flatMap evL) := by
  have h1 := h.upto (k := m) hm
  have e : (l.flatMap evL).take (m * 11) = (l.take m).flatMap evL := by
    have := flatTake evL 11 evL_len l m
    exact this
  rwa [e] at h1
theorem same_all {b d : Bk} (h1 : b.kind = d.kind) (h2 : b.cpu = d.cpu) (h3 : b.lost = d.lost) (h4 : b.next = d.next) (h5 : b.evs.length = d.evs.length) (h : ∀ i, i < b.evs.length → b.evs.getD i Ev.zero = d.evs.getD i Ev.zero) : b = d := by
  have he : b.evs = d.evs := by
    apply List.ext_getElem h5
    intro i hi hj
    have := h i hi
    rwa [List.getD_eq_getElem?_getD, List.getD_eq_getElem?_getD, List.getElem?_eq_getElem hi, List.getElem?_eq_getElem hj] at this
  cases b; cases d
  simp only at h1 h2 h3 h4 he
  subst h1; subst h2; subst h3; subst h4; subst he
  rfl
theorem same_not {b d : Bk} (h : b.kind ≠ d.kind ∨ b.cpu ≠ d.cpu ∨ b.lost ≠ d.lost ∨ b.next ≠ d.next ∨ b.evs.length ≠ d.evs.length) : ¬ b = d := by
  rintro rfl
  omega
set_option maxRecDepth 100000 in
set_option maxHeartbeats 4000000 in
theorem fill10_any (b : Bk) (hok : b.Ok) (A : Option Addr) (c : Nat) (w : World) (hr : Rd w w.heap.size 11 A b.evs.length (b.evs.flatMap evL)) (hn : b.evs.length ≤ 1000000) (hc : b.evs.length ≤ c) :
    Calls Tryd.prog 23 #[.agg (b.cells A c)] w (Is w (.tuple #[.int .i64 (b.fill.1 : Int), .int .i64 (b.fill.2 : Int)])) := by
 refine calls_enter (vs := [.agg (b.cells A c)]) Tryd.func23 rfl rfl (by kernel_rfl) (σ0 := [(0, .agg (b.cells A c))]) rfl ?_
 intro a HF
 have HM := Mem.start w
 refine wp_seq (from_start ?_)
 refine from_op HF (i := 0) rfl rfl ?_
 refine e_box HF HM (cs := (b.cells A c)) rfl rfl rfl rfl (by decide) ?_
 clear HF HM; intro a w1 g1 HF HM
 refine fp HF 2 1 [(3, vI 0), (2, vI 0)] ?_; clear HF; intro a HF
 refine from_done rfl ?_
 refine wp_seq (wp_seq (from_start ?_))
 refine fy HF HM 0 rfl rfl rfl (v := .agg (b.cells A c)) (Yl.loadS rfl rfl si_rbk rfl (fun _ h => range_of_block (h.blk (i := 0) rfl))) ?_; clear HF; intro a HF
 refine from_op HF (i := 1) rfl rfl ?_
 refine e_call HF (vs := [.agg (b.cells A c)]) rfl (by kernel_rfl) (by kernel_rfl) rfl (by decide) (fits10_any b hok A c _ (HM.old hr) hn) ?_
 rintro _ w7 ⟨rfl, hbw⟩
 refine ⟨_, rfl, ?_⟩
 replace HM := HM.call hbw
 clear HF; intro a HF
 refine fp HF 1 2 [(8, .bool (!b.fits))] ?_; clear HF; intro a HF
 refine from_done rfl ?_
 rcases Bool.eq_false_or_eq_true (!b.fits) with hb8 | hb8
 ·have HF := HF.on 8 hb8
  have hf : b.fits = false := by simpa using hb8
  refine cond_true HF rfl (wp_seq (from_start ?_))
  refine fp HF 2 0 [(3, vI 107), (2, vI 0)] ?_; clear HF; intro a HF
  refine from_done rfl ?_
  refine wp_ret ?_
  exact ret2 rfl HF (.tmp HF rfl) (.tmp HF rfl) (fill_is (by unfold Bk.fill; rw [if_pos hf]) HM.below)
 ·have HF := HF.on 8 hb8
  have hf : b.fits = true := by simpa using hb8
  refine cond_false HF rfl (wp_skip (wp_seq (from_start ?_)))
  refine fp HF 1 0 [(9, vP g1 4)] ?_; clear HF; intro a HF
  refine fy HF HM 1 rfl rfl rfl (v := .slice A b.evs.length c) (Yl.load1 rfl rfl (by kernel_rfl) (fun _ h => h.cell (i := 0) rfl (rfl))) ?_; clear HF; intro a HF
  refine fy HF HM 2 rfl rfl rfl (Yl.len rfl rfl (by kernel_rfl)) ?_; clear HF; intro a HF
  refine fp HF 1 3 [(4, vI b.evs.length)] ?_; clear HF; intro a HF
  refine from_done rfl ?_
  refine wp_seq (wp_block ?_)
  refine loop_nat (fun mS aS wS => ∃ (k : Nat), (k ≤ b.evs.length) ∧ (∀ m, k < m → m ≤ b.evs.length → b.big m = true) ∧ mS = 0 + k ∧ Fr aS 28 [] [(4, vI k), (8, .bool false), (3, vI 0), (2, vI 0), (1, vP g1 0)] ∧ Mem w wS [.blk g1 (b.cells A c) 39]) (m := 0 + b.evs.length) ⟨b.evs.length, Nat.le_refl _, fun m h1 h2 => by omega, rfl, HF.sub (by kernel_rfl), HM.picks [0] (by decide) rfl⟩ ?_
  clear HF HM; rintro mS a w_ ⟨k, hk, hall, rfl, HF, HM⟩
  refine wp_seq (wp_seq (from_start ?_))
  refine fp HF 2 0 [(13, .bool (decide ((k : Int) > (0 : Int)))), (12, vI k)] ?_; clear HF; intro a HF
  refine from_done rfl ?_
  rcases Bool.eq_false_or_eq_true (decide ((k : Int) > (0 : Int))) with hb13 | hb13
  ·have HF := HF.on 13 hb13
   have hd13 := of_decide_eq_true hb13
   have hk0 : 0 < k := by omega
   have hkd : b.kind = 1 := by by_cases h2 : b.kind = 2; (have := fits_next hf h2; omega); exact (fits_evs hf h2).1
   have hlu := upto_len' hkd hk0 hk
   have hul := upto_len hk
   refine cond_true HF rfl (wp_skip (wp_block (wp_seq (from_start ?_))))
   refine fy HF HM 0 rfl rfl rfl (v := .agg (b.cells A c)) (Yl.loadS rfl rfl si_rbk rfl (fun _ h => range_of_block (h.blk (i := 0) rfl))) ?_; clear HF; intro a HF
   refine from_op HF (i := 1) rfl rfl ?_
   refine e_alloc HF HM (cs := #[vB 0, vB 0, vI 0, vI 0, .slice none 0 0]) rfl (by kernel_rfl) rfl (by decide) ?_
   clear HF HM; intro a w5 g5 HF HM
   refine from_op HF (i := 2) rfl rfl ?_
   refine e_storeAll HF HM (i := 0) (cs := #[vB 0, vB 0, vI 0, vI 0, .slice none 0 0]) (ds := (b.cells A c)) rfl rfl rfl rfl si_rbk rfl rfl (bk_one _ _ _) rfl ?_
   clear HM; intro w5_2 HM
   refine from_done rfl ?_
   refine wp_seq (from_start ?_)
   refine fp HF 1 0 [(15, vP g1 4)] ?_; clear HF; intro a HF
   refine fy HF HM 1 rfl rfl rfl (v := .slice A b.evs.length c) (Yl.load1 rfl rfl (by kernel_rfl) (fun _ h => h.cell (i := 1) rfl (rfl))) ?_; clear HF; intro a HF
   refine fp HF 1 2 [(17, vI k)] ?_; clear HF; intro a HF
   refine fy HF HM 3 rfl rfl rfl (v := .slice A k c) (Yl.sliceUpto ei_rev (j := k) rfl rfl rfl (by omega)) ?_; clear HF; intro a HF
   replace HF := HF.as (t := 18) (u := .slice A ((b.upto k).evs.length) c) rfl (by rw [upto_len hk])
   refine fp HF 1 4 [(19, vP g5 4)] ?_; clear HF; intro a HF
   refine from_op HF (i := 5) rfl rfl ?_
   refine e_store HF HM (i := 0) (cs := (b.cells A c)) rfl rfl rfl rfl (by kernel_rfl) rfl rfl (by simp [Bk.cells]) ?_
   clear HM; intro w6_5 HM
   refine from_done rfl ?_
   refine wp_seq (wp_seq (from_start ?_))
   refine fy HF HM 0 rfl rfl rfl (v := .agg #[vB b.kind, vB b.cpu, vI b.lost, vI b.next, .slice A ((b.upto k).evs.length) c]) (Yl.loadS rfl rfl si_rbk rfl (fun _ h => range_of_block (h.blk (i := 0) rfl))) ?_; clear HF; intro a HF
   refine from_op HF (i := 1) rfl rfl ?_
   refine e_call HF (vs := [.agg #[vB b.kind, vB b.cpu, vI b.lost, vI b.next, .slice A ((b.upto k).evs.length) c]]) rfl (by kernel_rfl) (by kernel_rfl) rfl (by decide) (bytes10_any (b.upto k) (upto_ok hok k) A c _ ((HM.old (by rw [upto_len hk]; exact rdTake hr hk))) (by rw [upto_len hk]; omega) (upto_fits hok hf hk0 hk)) ?_
   rintro _ w21 ⟨⟨A21, c21, rfl, ho, hc21⟩, hbw⟩
   refine ⟨_, rfl, ?_⟩
   replace HM := HM.callRow hbw ho
   clear HF; intro a HF
   have hrw21 := raw_length (b.upto k)
   have hbl21 := body_length (b.upto k)
   refine fy HF HM 2 rfl rfl rfl (Yl.len rfl rfl (by kernel_rfl)) ?_; clear HF; intro a HF
   refine fp HF 1 3 [(23, vI (IntKind.i64.wrap (((((b.upto k).raw).length : Nat) : Int) + 4)))] ?_; clear HF; intro a HF
   replace HF := HF.as (t := 23) (u := vI (((b.upto k).raw).length + 4 : Nat)) rfl (i64_nat (by omega) (by omega))
   refine fp HF 1 4 [(24, .bool (decide (((((b.upto k).raw).length + 4 : Nat) : Int) ≤ (4096 : Int))))] ?_; clear HF; intro a HF
   refine from_done rfl ?_
   replace HM := HM.picks (fs' := [.blk g5 #[vB b.kind, vB b.cpu, vI b.lost, vI b.next, .slice A ((b.upto k).evs.length) c] 39, .blk g1 (b.cells A c) 39]) [1, 2] (by decide) rfl
   rcases Bool.eq_false_or_eq_true (decide (((((b.upto k).raw).length + 4 : Nat) : Int) ≤ (4096 : Int))) with hb24 | hb24
   ·have HF := HF.on 24 hb24
    have hd24 := of_decide_eq_true hb24
    have hbg : b.big k = false := by unfold Bk.big; rw [decide_eq_false]; omega
    refine cond_true HF rfl (wp_seq (from_start ?_))
    refine fp HF 3 0 [(3, vI 0), (2, vI k), (25, vI k)] ?_; clear HF; intro a HF
    refine from_done rfl ?_
    replace HF := HF.to [(3, vI 0), (2, vI k), (24, .bool true), (5, vP g5 0), (13, .bool true), (4, vI k), (8, .bool false), (1, vP g1 0)]
    refine wp_ret ?_
    exact ret2 rfl HF (.tmp HF rfl) (.tmp HF rfl) (fill_is (by unfold Bk.fill; rw [if_neg (by rw [hf]; decide), fillN_ref hk (fun _ => hbg) hall]) HM.below)
   ·have HF := HF.on 24 hb24
    have hd24 := of_decide_eq_false hb24
    have hbg : b.big k = true := by unfold Bk.big; rw [decide_eq_true]; omega
    refine cond_false HF rfl (wp_skip (from_start ?_))
    refine fp HF 2 0 [(27, vI (IntKind.i64.wrap ((k : Int) - 1))), (26, vI k)] ?_; clear HF; intro a HF
    replace HF := HF.as (t := 27) (u := vI (k - 1 : Nat)) rfl (i64_nat (by omega) (by omega))
    refine fp HF 1 2 [(4, vI (k - 1 : Nat))] ?_; clear HF; intro a HF
    refine from_done rfl ?_
    replace HF := HF.to [(4, vI (k - 1 : Nat)), (24, .bool false), (5, vP g5 0), (13, .bool true), (8, .bool false), (3, vI 0), (2, vI 0), (1, vP g1 0)]
    exact ⟨_, (by omega), (k - 1), by omega, fun m h1 h2 => by by_cases hm : k < m; (exact hall m hm h2); (have : m = k := by omega); subst this; exact hbg, rfl, HF.sub (by kernel_rfl), HM.picks [1] (by decide) rfl⟩
  ·have HF := HF.on 13 hb13
   have hd13 := of_decide_eq_false hb13
   refine cond_false HF rfl (wp_exit (wp_seq (from_start ?_)))
   refine fp HF 2 0 [(3, vI 0), (2, vI 0)] ?_; clear HF; intro a HF
   refine from_done rfl ?_
   refine wp_ret ?_
   exact ret2 rfl HF (.tmp HF rfl) (.tmp HF rfl) (fill_is (by unfold Bk.fill; rw [if_neg (by rw [hf]; decide), fillN_ref (n := 0) (Nat.zero_le _) (fun h => by omega) (fun m h1 h2 => hall m (by omega) h2)]) HM.below)
set_option maxRecDepth 100000 in
set_option maxHeartbeats 4000000 in
theorem same10_any (b d : Bk) (A A2 : Option Addr) (c c2 : Nat) (w : World) (hr : Rd w w.heap.size 11 A b.evs.length (b.evs.flatMap evL)) (hr2 : Rd w w.heap.size 11 A2 d.evs.length (d.evs.flatMap evL)) (hn : b.evs.length ≤ 1000000) :
    Calls Tryd.prog 13 #[.agg (b.cells A c), .agg (d.cells A2 c2)] w (Is w (.bool (decide (b = d)))) := by
 refine calls_enter (vs := [.agg (b.cells A c), .agg (d.cells A2 c2)]) Tryd.func13 rfl rfl (by kernel_rfl) (σ0 := [(0, .agg (b.cells A c)), (1, .agg (d.cells A2 c2))]) rfl ?_
 intro a HF
 have HM := Mem.start w
 refine wp_seq (from_start ?_)
 refine from_op HF (i := 0) rfl rfl ?_
 refine e_box HF HM (cs := (b.cells A c)) rfl rfl rfl rfl (by decide) ?_
 clear HF HM; intro a w2 g2 HF HM
 refine from_op HF (i := 1) rfl rfl ?_
 refine e_box HF HM (cs := (d.cells A2 c2)) rfl rfl rfl rfl (by decide) ?_
 clear HF HM; intro a w3 g3 HF HM
 refine fp HF 1 2 [(4, .bool false)] ?_; clear HF; intro a HF
 refine from_done rfl ?_
 refine wp_seq (wp_seq (from_start ?_))
 refine fp HF 1 0 [(6, vP g2 0)] ?_; clear HF; intro a HF
 refine fy HF HM 1 rfl rfl rfl (v := vB b.kind) (Yl.load1 rfl rfl (by kernel_rfl) (fun _ h => h.cell (i := 1) rfl (rfl))) ?_; clear HF; intro a HF
 refine fp HF 1 2 [(8, vP g3 0)] ?_; clear HF; intro a HF
 refine fy HF HM 3 rfl rfl rfl (v := vB d.kind) (Yl.load1 rfl rfl (by kernel_rfl) (fun _ h => h.cell (i := 0) rfl (rfl))) ?_; clear HF; intro a HF
 refine fp HF 2 4 [(11, .bool ((b.kind : Int) != (d.kind : Int))), (10, .bool ((b.kind : Int) != (d.kind : Int)))] ?_; clear HF; intro a HF
 rcases Bool.eq_false_or_eq_true ((b.kind : Int) != (d.kind : Int)) with hb11 | hb11
 ·have HF := HF.on 11 hb11
  have hd11 := bne_iff_ne.1 hb11
  refine fp HF 29 6 [(40, .bool true), (39, undef), (38, undef), (37, undef), (36, undef), (35, undef), (34, undef), (33, undef), (32, .bool true), (31, .bool true), (30, undef), (29, undef), (28, undef), (27, undef), (26, undef), (25, .bool true), (24, .bool true), (23, undef), (22, undef), (21, undef), (20, undef), (19, undef), (18, .bool true), (17, .bool true), (16, undef), (15, undef), (14, undef), (13, undef), (12, undef)] ?_; clear HF; intro a HF
  refine from_done rfl ?_
  replace HF := HF.to [(40, .bool true), (4, .bool false), (3, vP g3 0), (2, vP g2 0)]
  refine cond_true HF rfl (wp_seq (from_start ?_))
  refine fp HF 1 0 [(4, .bool false)] ?_; clear HF; intro a HF
  refine from_done rfl ?_
  refine wp_ret ?_
  exact ret1 rfl HF (.tmp HF rfl) (⟨by rw [decide_eq_false (same_not (by omega))], HM.below⟩)
 ·have HF := HF.on 11 hb11
  have hd11 := bne_eq_false_iff_eq.1 hb11
  refine fp HF 1 6 [(12, vP g2 1)] ?_; clear HF; intro a HF
  refine fy HF HM 7 rfl rfl rfl (v := vB b.cpu) (Yl.load1 rfl rfl (by kernel_rfl) (fun _ h => h.cell (i := 1) rfl (rfl))) ?_; clear HF; intro a HF
  refine fp HF 1 8 [(14, vP g3 1)] ?_; clear HF; intro a HF
  refine fy HF HM 9 rfl rfl rfl (v := vB d.cpu) (Yl.load1 rfl rfl (by kernel_rfl) (fun _ h => h.cell (i := 0) rfl (rfl))) ?_; clear HF; intro a HF
  refine fp HF 3 10 [(18, .bool ((b.cpu : Int) != (d.cpu : Int))), (17, .bool ((b.cpu : Int) != (d.cpu : Int))), (16, .bool ((b.cpu : Int) != (d.cpu : Int)))] ?_; clear HF; intro a HF
  rcases Bool.eq_false_or_eq_true ((b.cpu : Int) != (d.cpu : Int)) with hb18 | hb18
  ·have HF := HF.on 18 hb18
   have hd18 := bne_iff_ne.1 hb18
   refine fp HF 22 13 [(40, .bool true), (39, undef), (38, undef), (37, undef), (36, undef), (35, undef), (34, undef), (33, undef), (32, .bool true), (31, .bool true), (30, undef), (29, undef), (28, undef), (27, undef), (26, undef), (25, .bool true), (24, .bool true), (23, undef), (22, undef), (21, undef), (20, undef), (19, undef)] ?_; clear HF; intro a HF
   refine from_done rfl ?_
   replace HF := HF.to [(40, .bool true), (4, .bool false), (3, vP g3 0), (2, vP g2 0)]
   refine cond_true HF rfl (wp_seq (from_start ?_))
   refine fp HF 1 0 [(4, .bool false)] ?_; clear HF; intro a HF
   refine from_done rfl ?_
   refine wp_ret ?_
   exact ret1 rfl HF (.tmp HF rfl) (⟨by rw [decide_eq_false (same_not (by omega))], HM.below⟩)
  ·have HF := HF.on 18 hb18
   have hd18 := bne_eq_false_iff_eq.1 hb18
   refine fp HF 1 13 [(19, vP g2 2)] ?_; clear HF; intro a HF
   refine fy HF HM 14 rfl rfl rfl (v := vI b.lost) (Yl.load1 rfl rfl (by kernel_rfl) (fun _ h => h.cell (i := 1) rfl (rfl))) ?_; clear HF; intro a HF
   refine fp HF 1 15 [(21, vP g3 2)] ?_; clear HF; intro a HF
   refine fy HF HM 16 rfl rfl rfl (v := vI d.lost) (Yl.load1 rfl rfl (by kernel_rfl) (fun _ h => h.cell (i := 0) rfl (rfl))) ?_; clear HF; intro a HF
   refine fp HF 3 17 [(25, .bool ((b.lost : Int) != (d.lost : Int))), (24, .bool ((b.lost : Int) != (d.lost : Int))), (23, .bool ((b.lost : Int) != (d.lost : Int)))] ?_; clear HF; intro a HF
   rcases Bool.eq_false_or_eq_true ((b.lost : Int) != (d.lost : Int)) with hb25 | hb25
   ·have HF := HF.on 25 hb25
    have hd25 := bne_iff_ne.1 hb25
    refine fp HF 15 20 [(40, .bool true), (39, undef), (38, undef), (37, undef), (36, undef), (35, undef), (34, undef), (33, undef), (32, .bool true), (31, .bool true), (30, undef), (29, undef), (28, undef), (27, undef), (26, undef)] ?_; clear HF; intro a HF
    refine from_done rfl ?_
    replace HF := HF.to [(40, .bool true), (4, .bool false), (3, vP g3 0), (2, vP g2 0)]
    refine cond_true HF rfl (wp_seq (from_start ?_))
    refine fp HF 1 0 [(4, .bool false)] ?_; clear HF; intro a HF
    refine from_done rfl ?_
    refine wp_ret ?_
    exact ret1 rfl HF (.tmp HF rfl) (⟨by rw [decide_eq_false (same_not (by omega))], HM.below⟩)
   ·have HF := HF.on 25 hb25
    have hd25 := bne_eq_false_iff_eq.1 hb25
    refine fp HF 1 20 [(26, vP g2 3)] ?_; clear HF; intro a HF
    refine fy HF HM 21 rfl rfl rfl (v := vI b.next) (Yl.load1 rfl rfl (by kernel_rfl) (fun _ h => h.cell (i := 1) rfl (rfl))) ?_; clear HF; intro a HF
    refine fp HF 1 22 [(28, vP g3 3)] ?_; clear HF; intro a HF
    refine fy HF HM 23 rfl rfl rfl (v := vI d.next) (Yl.load1 rfl rfl (by kernel_rfl) (fun _ h => h.cell (i := 0) rfl (rfl))) ?_; clear HF; intro a HF
    refine fp HF 3 24 [(32, .bool ((b.next : Int) != (d.next : Int))), (31, .bool ((b.next : Int) != (d.next : Int))), (30, .bool ((b.next : Int) != (d.next : Int)))] ?_; clear HF; intro a HF
    rcases Bool.eq_false_or_eq_true ((b.next : Int) != (d.next : Int)) with hb32 | hb32
    ·have HF := HF.on 32 hb32
     have hd32 := bne_iff_ne.1 hb32
     refine fp HF 8 27 [(40, .bool true), (39, undef), (38, undef), (37, undef), (36, undef), (35, undef), (34, undef), (33, undef)] ?_; clear HF; intro a HF
     refine from_done rfl ?_
     replace HF := HF.to [(40, .bool true), (4, .bool false), (3, vP g3 0), (2, vP g2 0)]
     refine cond_true HF rfl (wp_seq (from_start ?_))
     refine fp HF 1 0 [(4, .bool false)] ?_; clear HF; intro a HF
     refine from_done rfl ?_
     refine wp_ret ?_
     exact ret1 rfl HF (.tmp HF rfl) (⟨by rw [decide_eq_false (same_not (by omega))], HM.below⟩)
    ·have HF := HF.on 32 hb32
     have hd32 := bne_eq_false_iff_eq.1 hb32
     refine fp HF 1 27 [(33, vP g2 4)] ?_; clear HF; intro a HF
     refine fy HF HM 28 rfl rfl rfl (v := .slice A b.evs.length c) (Yl.load1 rfl rfl (by kernel_rfl) (fun _ h => h.cell (i := 1) rfl (rfl))) ?_; clear HF; intro a HF
     refine fy HF HM 29 rfl rfl rfl (Yl.len rfl rfl (by kernel_rfl)) ?_; clear HF; intro a HF
     refine fp HF 1 30 [(36, vP g3 4)] ?_; clear HF; intro a HF
     refine fy HF HM 31 rfl rfl rfl (v := .slice A2 d.evs.length c2) (Yl.load1 rfl rfl (by kernel_rfl) (fun _ h => h.cell (i := 0) rfl (rfl))) ?_; clear HF; intro a HF
     refine fy HF HM 32 rfl rfl rfl (Yl.len rfl rfl (by kernel_rfl)) ?_; clear HF; intro a HF
     refine fp HF 2 33 [(40, .bool ((b.evs.length : Int) != (d.evs.length : Int))), (39, .bool ((b.evs.length : Int) != (d.evs.length : Int)))] ?_; clear HF; intro a HF
     refine from_done rfl ?_
     replace HF := HF.to [(40, .bool ((b.evs.length : Int) != (d.evs.length : Int))), (4, .bool false), (3, vP g3 0), (2, vP g2 0)]
     rcases Bool.eq_false_or_eq_true ((b.evs.length : Int) != (d.evs.length : Int)) with hb40 | hb40
     ·have HF := HF.on 40 hb40
      have hd40 := bne_iff_ne.1 hb40
      refine cond_true HF rfl (wp_seq (from_start ?_))
      refine fp HF 1 0 [(4, .bool false)] ?_; clear HF; intro a HF
      refine from_done rfl ?_
      refine wp_ret ?_
      exact ret1 rfl HF (.tmp HF rfl) (⟨by rw [decide_eq_false (same_not (by omega))], HM.below⟩)
     ·have HF := HF.on 40 hb40
      have hd40 := bne_eq_false_iff_eq.1 hb40
      refine cond_false HF rfl (wp_skip (wp_seq (wp_seq (from_start ?_))))
      refine fp HF 1 0 [(5, vI 0)] ?_; clear HF; intro a HF
      refine from_done rfl ?_
      refine wp_block ?_
      refine loop_nat (fun mS aS wS => ∃ (k : Nat), (k ≤ b.evs.length) ∧ (∀ i, i < k → b.evs.getD i Ev.zero = d.evs.getD i Ev.zero) ∧ mS = b.evs.length - k ∧ Fr aS 59 [] [(5, vI k), (40, .bool false), (4, .bool false), (3, vP g3 0), (2, vP g2 0)] ∧ Mem w wS [.blk g3 (d.cells A2 c2) 39, .blk g2 (b.cells A c) 39]) (m := b.evs.length - 0) ⟨0, Nat.zero_le _, fun i hi => absurd hi (Nat.not_lt_zero _), rfl, HF.sub (by kernel_rfl), HM.picks [0, 1] (by decide) rfl⟩ ?_
      clear HF HM; rintro mS a w_ ⟨k, hk, hall, rfl, HF, HM⟩
      refine wp_seq (wp_seq (from_start ?_))
      refine fp HF 2 0 [(42, vP g2 4), (41, vI k)] ?_; clear HF; intro a HF
      refine fy HF HM 2 rfl rfl rfl (v := .slice A b.evs.length c) (Yl.load1 rfl rfl (by kernel_rfl) (fun _ h => h.cell (i := 1) rfl (rfl))) ?_; clear HF; intro a HF
      refine fy HF HM 3 rfl rfl rfl (Yl.len rfl rfl (by kernel_rfl)) ?_; clear HF; intro a HF
      refine fp HF 1 4 [(45, .bool (decide ((k : Int) < (b.evs.length : Int))))] ?_; clear HF; intro a HF
      refine from_done rfl ?_
      rcases Bool.eq_false_or_eq_true (decide ((k : Int) < (b.evs.length : Int))) with hb45 | hb45
      ·have HF := HF.on 45 hb45
       have hd45 := of_decide_eq_true hb45
       have hk45 : k < b.evs.length := by omega
       refine cond_true HF rfl (wp_skip (wp_seq (wp_block (wp_seq ?_))))
       refine any_start (by kernel_rfl) (fun wS => Mem w wS [.blk g3 (d.cells A2 c2) 39, .blk g2 (b.cells A c) 39]) [] ?_
       replace HM := HM.drew
       have HS := HM.picks (fs' := [.blk g3 (d.cells A2 c2) 39, .blk g2 (b.cells A c) 39]) [0, 1] (by decide) rfl
       refine ap HF (fun _ => HS) [0, 2, 5, 7] #[true, false, true, false, false, true, false, true, false, false, false] [(55, vI k), (53, vP g3 4), (50, vI k), (48, vP g2 4)] ?_; clear HF; intro a HF
       refine ay HF HS 1 rfl rfl rfl (v := .slice A b.evs.length c) (Yl.load1 rfl rfl (by kernel_rfl) (fun _ h => h.cell (i := 1) rfl (rfl))) ?_; clear HF; intro a HF
       obtain ⟨gA, oA, rfl, _⟩ := hr.some_at (Nat.lt_of_le_of_lt (Nat.zero_le _) (show k < b.evs.length from by omega)) (by decide)
       refine ay HF HS 3 rfl rfl rfl (v := vP gA (oA + k * 11)) ((Yl.indexAddr (ad := ⟨gA, oA, none⟩) (y := k) (sz := 11) rfl rfl rfl (by omega) (by kernel_rfl)).as (by rw [Addr.add_mid])) ?_; clear HF; intro a HF
       refine ay HF HS 4 rfl rfl rfl (v := .agg ((b.evs.getD k Ev.zero).cells)) (Yl.loadS rfl rfl ⟨(by kernel_rfl), (by kernel_rfl)⟩ rfl (fun _ h => (h.old hr).structAt evL_len ((getD_at Ev.zero (k := k) (by first | omega | (simp; omega)))))) ?_; clear HF; intro a HF
       refine ay HF HS 6 rfl rfl rfl (v := .slice A2 d.evs.length c2) (Yl.load1 rfl rfl (by kernel_rfl) (fun _ h => h.cell (i := 0) rfl (rfl))) ?_; clear HF; intro a HF
       obtain ⟨gA2, oA2, rfl, _⟩ := hr2.some_at (Nat.lt_of_le_of_lt (Nat.zero_le _) (show k < d.evs.length from by omega)) (by decide)
       refine ay HF HS 8 rfl rfl rfl (v := vP gA2 (oA2 + k * 11)) ((Yl.indexAddr (ad := ⟨gA2, oA2, none⟩) (y := k) (sz := 11) rfl rfl rfl (by omega) (by kernel_rfl)).as (by rw [Addr.add_mid])) ?_; clear HF; intro a HF
       refine ay HF HS 9 rfl rfl rfl (v := .agg ((d.evs.getD k Ev.zero).cells)) (Yl.loadS rfl rfl ⟨(by kernel_rfl), (by kernel_rfl)⟩ rfl (fun _ h => (h.old hr2).structAt evL_len ((getD_at Ev.zero (k := k) (by first | omega | (simp; omega)))))) ?_; clear HF; intro a HF
       refine ay HF HS 10 rfl rfl rfl (v := .bool (!(decide ((b.evs.getD k Ev.zero) = (d.evs.getD k Ev.zero))))) (Yl.neqEv (x := (b.evs.getD k Ev.zero)) (y := (d.evs.getD k Ev.zero)) rfl rfl rfl (by kernel_rfl)) ?_; clear HF; intro a HF
       refine any_done (by kernel_rfl) ?_
       rcases Bool.eq_false_or_eq_true (!(decide ((b.evs.getD k Ev.zero) = (d.evs.getD k Ev.zero)))) with hb58 | hb58
       ·have HF := HF.on 58 hb58
        refine cond_true HF rfl (wp_seq (from_start ?_))
        refine fp HF 1 0 [(4, .bool false)] ?_; clear HF; intro a HF
        refine from_done rfl ?_
        replace HF := HF.to [(4, .bool false), (58, .bool true), (45, .bool true), (5, vI k), (40, .bool false), (3, vP g3 0), (2, vP g2 0)]
        refine wp_ret ?_
        exact ret1 rfl HF (.tmp HF rfl) (⟨by rw [decide_eq_false (fun h => by rw [h] at hb58; simp at hb58)], HM.below⟩)
       ·have HF := HF.on 58 hb58
        refine cond_false HF rfl (wp_skip (from_start ?_))
        refine fp HF 2 0 [(47, vI (IntKind.i64.wrap ((k : Int) + 1))), (46, vI k)] ?_; clear HF; intro a HF
        replace HF := HF.as (t := 47) (u := vI (k + 1 : Nat)) rfl (i64_nat (by omega) (by omega))
        refine fp HF 1 2 [(5, vI (k + 1 : Nat))] ?_; clear HF; intro a HF
        refine from_done rfl ?_
        replace HF := HF.to [(5, vI (k + 1 : Nat)), (58, .bool false), (45, .bool true), (40, .bool false), (4, .bool false), (3, vP g3 0), (2, vP g2 0)]
        exact ⟨_, (by omega), k + 1, by omega, fun i hi => (Nat.lt_succ_iff_lt_or_eq.1 hi).elim (hall i) (fun h => by subst h; simpa using hb58), rfl, HF.sub (by kernel_rfl), HM.picks [0, 1] (by decide) rfl⟩
      ·have HF := HF.on 45 hb45
       have hd45 := of_decide_eq_false hb45
       refine cond_false HF rfl (wp_exit (wp_seq (from_start ?_)))
       refine fp HF 1 0 [(4, .bool true)] ?_; clear HF; intro a HF
       refine from_done rfl ?_
       refine wp_ret ?_
       exact ret1 rfl HF (.tmp HF rfl) (⟨by rw [decide_eq_true (same_all (by omega) (by omega) (by omega) (by omega) (by omega) (fun i hi => hall i (by omega)))], HM.below⟩)
end Go.Proofs.YtnakabnmjnfpcaaDoor

set_option linter.all false
namespace Go.Proofs.YtnakabnmjnfpcaaDoor
open Go.RowKit
end Go.Proofs.YtnakabnmjnfpcaaDoor

set_option linter.all false
namespace Go.Proofs.YtnakabnmjnfpcaaDoor
open Go.RowKit
end Go.Proofs.YtnakabnmjnfpcaaDoor

set_option linter.all false
namespace Go.Proofs.YtnakabnmjnfpcaaDoor
open Go.RowKit
set_option maxRecDepth 100000 in
set_option maxHeartbeats 4000000 in
theorem turned10_any (b : Bk) (A : Option Addr) (c : Nat) (w : World) (hr : Rd w w.heap.size 11 A b.evs.length (b.evs.flatMap evL)) (hn : b.evs.length ≤ 1000000) :
    Calls Tryd.prog 14 #[.agg (b.cells A c)] w (RBlkIs w b) := by
 refine calls_enter (vs := [.agg (b.cells A c)]) Tryd.func14 rfl rfl (by kernel_rfl) (σ0 := [(0, .agg (b.cells A c))]) rfl ?_
 intro a HF
 have HM := Mem.start w
 refine wp_seq (from_start ?_)
 refine from_op HF (i := 0) rfl rfl ?_
 refine e_box HF HM (cs := (b.cells A c)) rfl rfl rfl rfl (by decide) ?_
 clear HF HM; intro a w1 g1 HF HM
 refine from_op HF (i := 1) rfl rfl ?_
 refine e_alloc HF HM (cs := #[vB 0, vB 0, vI 0, vI 0, .slice none 0 0]) rfl (by kernel_rfl) rfl (by decide) ?_
 clear HF HM; intro a w2 g2 HF HM
 refine from_done rfl ?_
 refine wp_seq (from_start ?_)
 refine fp HF 1 0 [(6, vP g1 0)] ?_; clear HF; intro a HF
 refine fy HF HM 1 rfl rfl rfl (v := vB b.kind) (Yl.load1 rfl rfl (by kernel_rfl) (fun _ h => h.cell (i := 1) rfl (rfl))) ?_; clear HF; intro a HF
 refine fp HF 1 2 [(8, vP g1 1)] ?_; clear HF; intro a HF
 refine fy HF HM 3 rfl rfl rfl (v := vB b.cpu) (Yl.load1 rfl rfl (by kernel_rfl) (fun _ h => h.cell (i := 1) rfl (rfl))) ?_; clear HF; intro a HF
 refine fp HF 1 4 [(10, vP g1 2)] ?_; clear HF; intro a HF
 refine fy HF HM 5 rfl rfl rfl (v := vI b.lost) (Yl.load1 rfl rfl (by kernel_rfl) (fun _ h => h.cell (i := 1) rfl (rfl))) ?_; clear HF; intro a HF
 refine fp HF 1 6 [(12, vP g1 3)] ?_; clear HF; intro a HF
 refine fy HF HM 7 rfl rfl rfl (v := vI b.next) (Yl.load1 rfl rfl (by kernel_rfl) (fun _ h => h.cell (i := 1) rfl (rfl))) ?_; clear HF; intro a HF
 refine fy HF HM 8 rfl rfl rfl (v := .agg #[vB b.kind, vB b.cpu, vI b.lost, vI b.next, .slice none 0 0]) (Yl.build (vs := [(0, vB b.kind), (1, vB b.cpu), (2, vI b.lost), (3, vI b.next)]) rfl (by kernel_rfl) (by kernel_rfl)) ?_; clear HF; intro a HF
 refine from_op HF (i := 9) rfl rfl ?_
 refine e_alloc HF HM (cs := #[vB 0, vB 0, vI 0, vI 0, .slice none 0 0]) rfl (by kernel_rfl) rfl (by decide) ?_
 clear HF HM; intro a w3 g3 HF HM
 refine from_op HF (i := 10) rfl rfl ?_
 refine e_storeAll HF HM (i := 0) (cs := #[vB 0, vB 0, vI 0, vI 0, .slice none 0 0]) (ds := #[vB b.kind, vB b.cpu, vI b.lost, vI b.next, .slice none 0 0]) rfl rfl rfl rfl si_rbk rfl rfl (by simp [Value.oneCell']) rfl ?_
 clear HM; intro w1_10 HM
 refine from_done rfl ?_
 replace HM := HM.nil 65 11
 refine wp_seq (wp_seq (from_start ?_))
 refine fp HF 1 0 [(15, vP g1 4)] ?_; clear HF; intro a HF
 refine fy HF HM 1 rfl rfl rfl (v := .slice A b.evs.length c) (Yl.load1 rfl rfl (by kernel_rfl) (fun _ h => h.cell (i := 3) rfl (rfl))) ?_; clear HF; intro a HF
 refine fy HF HM 2 rfl rfl rfl (Yl.len rfl rfl (by kernel_rfl)) ?_; clear HF; intro a HF
 refine fp HF 1 3 [(18, vI 0)] ?_; clear HF; intro a HF
 refine from_done rfl ?_
 refine wp_block ?_
 refine loop_nat (fun mS aS wS => ∃ (k : Nat) (Ak : Option Addr) (ck : Nat), (k ≤ b.evs.length) ∧ (k ≤ ck) ∧ mS = b.evs.length - k ∧ Fr aS 30 [] [(18, vI k), (17, vI b.evs.length), (16, .slice A b.evs.length c), (3, vP g3 0), (2, vP g2 0), (1, vP g1 0)] ∧ Mem w wS [.row (.slice Ak k ck) k ((b.evs.take k).flatMap evL) 65 11, .blk g3 #[vB b.kind, vB b.cpu, vI b.lost, vI b.next, .slice Ak k ck] 39, .blk g2 #[vB 0, vB 0, vI 0, vI 0, .slice none 0 0] 39, .blk g1 (b.cells A c) 27]) (m := b.evs.length - 0) ⟨0, none, 0, Nat.zero_le _, Nat.le_refl _, rfl, HF.sub (by kernel_rfl), HM.picks [0, 1, 2, 3] (by decide) rfl⟩ ?_
 clear HF HM; rintro mS a w_ ⟨k, Ak, ck, hk, hck, rfl, HF, HM⟩
 refine wp_seq (from_start ?_)
 refine fp HF 1 0 [(19, .bool (decide ((k : Int) < (b.evs.length : Int))))] ?_; clear HF; intro a HF
 refine from_done rfl ?_
 refine wp_seq ?_
 rcases Bool.eq_false_or_eq_true (decide ((k : Int) < (b.evs.length : Int))) with hb19 | hb19
 ·have HF := HF.on 19 hb19
  have hd19 := of_decide_eq_true hb19
  have hk19 : k < b.evs.length := by omega
  refine cond_true HF rfl (wp_skip (wp_seq (wp_block (wp_seq (from_start ?_)))))
  obtain ⟨gA, oA, rfl, _⟩ := hr.some_at (Nat.lt_of_le_of_lt (Nat.zero_le _) (show k < b.evs.length from by omega)) (by decide)
  refine fy HF HM 0 rfl rfl rfl (v := vP gA (oA + k * 11)) ((Yl.indexAddr (ad := ⟨gA, oA, none⟩) (y := k) (sz := 11) rfl rfl rfl (by omega) (by kernel_rfl)).as (by rw [Addr.add_mid])) ?_; clear HF; intro a HF
  refine fy HF HM 1 rfl rfl rfl (v := .agg ((b.evs.getD k Ev.zero).cells)) (Yl.loadS rfl rfl ⟨(by kernel_rfl), (by kernel_rfl)⟩ rfl (fun _ h => (h.old hr).structAt evL_len ((getD_at Ev.zero (k := k) (by first | omega | (simp; omega)))))) ?_; clear HF; intro a HF
  refine from_op HF (i := 2) rfl rfl ?_
  refine e_alloc HF HM (cs := #[vI 0, vI 0, vB 0, vB 0, vI 0, vI 0, vI 0, vI 0, vI 0, vQ 0, vI 0]) rfl (by kernel_rfl) rfl (by decide) ?_
  clear HF HM; intro a w5 g5 HF HM
  refine from_op HF (i := 3) rfl rfl ?_
  refine e_storeAll HF HM (i := 0) (cs := #[vI 0, vI 0, vB 0, vB 0, vI 0, vI 0, vI 0, vI 0, vI 0, vQ 0, vI 0]) (ds := (b.evs.getD k Ev.zero).cells) rfl rfl rfl rfl ⟨(by kernel_rfl), (by kernel_rfl)⟩ rfl rfl (ev_one (b.evs.getD k Ev.zero)) rfl ?_
  clear HM; intro w4_3 HM
  refine from_done rfl ?_
  refine from_start ?_
  refine fp HF 1 0 [(22, vP g3 4)] ?_; clear HF; intro a HF
  refine fy HF HM 1 rfl rfl rfl (Yl.load1 rfl rfl (by kernel_rfl) (fun _ h => h.cell (i := 2) rfl rfl)) ?_; clear HF; intro a HF
  refine fy HF HM 2 rfl rfl rfl (v := .agg ((b.evs.getD k Ev.zero).cells)) (Yl.loadS rfl rfl ⟨(by kernel_rfl), (by kernel_rfl)⟩ rfl (fun _ h => range_of_block (h.blk (i := 0) rfl))) ?_; clear HF; intro a HF
  refine from_op HF (i := 3) rfl rfl ?_
  refine e_slice HF HM (vs := [(0, .agg ((b.evs.getD k Ev.zero).cells))]) (cs := (b.evs.getD k Ev.zero).cells) rfl ei_rev (by decide) rfl (by kernel_rfl) rfl (by decide) ?_
  clear HF HM; intro a w25 g25 HF HM
  refine from_op HF (i := 4) rfl rfl ?_
  refine e_append HF HM (i := 2) rfl ei_rev rfl rfl rfl (news := (evL (b.evs.getD k Ev.zero))) (HM.rdBlk (i := 0) (n := 1) (size := 11) rfl rfl) (ev_one _) (by omega) (by omega) rfl (by decide) ?_
  clear HF HM; intro a w26 A26 c26 HF HM hc26
  rw [show ((b.evs.take k).flatMap evL) ++ (evL (b.evs.getD k Ev.zero)) = (b.evs.take (k + 1)).flatMap evL from by rw [evTake_succ (by omega)]] at HM
  refine fp HF 1 5 [(27, vP g3 4)] ?_; clear HF; intro a HF
  refine from_op HF (i := 6) rfl rfl ?_
  refine e_store HF HM (i := 3) (cs := #[vB b.kind, vB b.cpu, vI b.lost, vI b.next, .slice Ak k ck]) rfl rfl rfl rfl (by kernel_rfl) rfl rfl (by simp) ?_
  clear HM; intro w5_6 HM
  refine from_done rfl ?_
  replace HM := HM.picks (fs' := [.blk g5 ((b.evs.getD k Ev.zero).cells) 46, .row (.slice A26 (k + 1) c26) (k + 1) ((b.evs.take (k + 1)).flatMap evL) 65 11, .blk g3 #[vB b.kind, vB b.cpu, vI b.lost, vI b.next, .slice A26 (k + 1) c26] 39, .blk g2 #[vB 0, vB 0, vI 0, vI 0, .slice none 0 0] 39, .blk g1 (b.cells (some ⟨gA, oA, none⟩) c) 27]) [1, 2, 3, 4, 5] (by decide) rfl
  refine from_start ?_
  refine fp HF 1 0 [(28, vI (IntKind.i64.wrap ((k : Int) + 1)))] ?_; clear HF; intro a HF
  replace HF := HF.as (t := 28) (u := vI (k + 1 : Nat)) rfl (i64_nat (by omega) (by omega))
  refine fp HF 1 1 [(18, vI (k + 1 : Nat))] ?_; clear HF; intro a HF
  refine from_done rfl ?_
  exact ⟨_, (by omega), k + 1, A26, c26, by omega, hc26, rfl, HF.sub (by kernel_rfl), HM.picks [1, 2, 3, 4] (by decide) rfl⟩
 ·have HF := HF.on 19 hb19
  have hd19 := of_decide_eq_false hb19
  have hkn : k = b.evs.length := by omega
  refine cond_false HF rfl (wp_exit (wp_seq (from_start ?_)))
  refine fy HF HM 0 rfl rfl rfl (v := .agg #[vB b.kind, vB b.cpu, vI b.lost, vI b.next, .slice Ak k ck]) (Yl.loadS rfl rfl si_rbk rfl (fun _ h => range_of_block (h.blk (i := 1) rfl))) ?_; clear HF; intro a HF
  refine from_op HF (i := 1) rfl rfl ?_
  refine e_storeAll HF HM (i := 2) (cs := #[vB 0, vB 0, vI 0, vI 0, .slice none 0 0]) (ds := #[vB b.kind, vB b.cpu, vI b.lost, vI b.next, .slice Ak k ck]) rfl rfl rfl rfl si_rbk rfl rfl (by simp [Value.oneCell']) rfl ?_
  clear HM; intro w7_1 HM
  refine from_done rfl ?_
  refine wp_ret ?_
  exact ret1 rfl HF (.cellS (i := 2) HF HM rfl rfl si_rbk rfl) (⟨⟨Ak, ck, by rw [hkn]; rfl, by have h := HM.own (i := 0) rfl; rw [hkn, List.take_length] at h; exact h, by omega⟩, HM.below⟩)
set_option maxRecDepth 100000 in
set_option maxHeartbeats 4000000 in
theorem lent10_any (b : Bk) (A : Option Addr) (c : Nat) (w : World) (hr : Rd w w.heap.size 11 A b.evs.length (b.evs.flatMap evL)) (hn : b.evs.length ≤ 1000000) :
    Calls Tryd.prog 20 #[.agg (b.cells A c)] w (LBlkIs w b) := by
 refine calls_enter (vs := [.agg (b.cells A c)]) Tryd.func20 rfl rfl (by kernel_rfl) (σ0 := [(0, .agg (b.cells A c))]) rfl ?_
 intro a HF
 have HM := Mem.start w
 refine wp_seq (from_start ?_)
 refine from_op HF (i := 0) rfl rfl ?_
 refine e_box HF HM (cs := (b.cells A c)) rfl rfl rfl rfl (by decide) ?_
 clear HF HM; intro a w1 g1 HF HM
 refine from_op HF (i := 1) rfl rfl ?_
 refine e_alloc HF HM (cs := #[vB 0, vB 0, vI 0, vI 0, .slice none 0 0]) rfl (by kernel_rfl) rfl (by decide) ?_
 clear HF HM; intro a w2 g2 HF HM
 refine from_done rfl ?_
 refine wp_seq (from_start ?_)
 refine from_op HF (i := 0) rfl rfl ?_
 refine e_slice0 HF HM rfl ei_ev rfl (by decide) ?_
 clear HF HM; intro a w3 g3 HF HM
 refine fp HF 1 1 [(4, vP g1 4)] ?_; clear HF; intro a HF
 refine fy HF HM 2 rfl rfl rfl (v := .slice A b.evs.length c) (Yl.load1 rfl rfl (by kernel_rfl) (fun _ h => h.cell (i := 2) rfl (rfl))) ?_; clear HF; intro a HF
 refine from_op HF (i := 3) rfl rfl ?_
 refine e_append HF HM (i := 0) rfl ei_ev rfl rfl rfl (news := (b.evs.flatMap evL)) (HM.old hr) (ev_ones _) (by omega) (by omega) rfl (by decide) ?_
 clear HF HM; intro a w6 A6 c6 HF HM hc6
 refine fp HF 1 4 [(7, vP g1 4)] ?_; clear HF; intro a HF
 refine from_op HF (i := 5) rfl rfl ?_
 refine e_store HF HM (i := 2) (cs := (b.cells A c)) rfl rfl rfl rfl (by kernel_rfl) rfl rfl (by simp [Bk.cells]) ?_
 clear HM; intro w1_5 HM
 refine from_done rfl ?_
 refine wp_seq (from_start ?_)
 refine fy HF HM 0 rfl rfl rfl (v := .agg #[vB b.kind, vB b.cpu, vI b.lost, vI b.next, .slice A6 (0 + b.evs.length) c6]) (Yl.loadS rfl rfl si_bk rfl (fun _ h => range_of_block (h.blk (i := 2) rfl))) ?_; clear HF; intro a HF
 refine from_op HF (i := 1) rfl rfl ?_
 refine e_storeAll HF HM (i := 1) (cs := #[vB 0, vB 0, vI 0, vI 0, .slice none 0 0]) (ds := #[vB b.kind, vB b.cpu, vI b.lost, vI b.next, .slice A6 (0 + b.evs.length) c6]) rfl rfl rfl rfl si_bk rfl rfl (by simp [Value.oneCell']) rfl ?_
 clear HM; intro w2_1 HM
 refine from_done rfl ?_
 refine wp_ret ?_
 exact ret1 rfl HF (.cellS (i := 1) HF HM rfl rfl si_bk rfl) (⟨⟨A6, c6, by rw [Nat.zero_add]; rfl, by have h := HM.own (i := 0) rfl; rw [Nat.zero_add, List.nil_append] at h; exact h, by omega⟩, HM.below⟩)
theorem same10_self (b : Bk) (A A2 : Option Addr) (c c2 : Nat) (w : World) (hr : Rd w w.heap.size 11 A b.evs.length (b.evs.flatMap evL)) (hr2 : Rd w w.heap.size 11 A2 b.evs.length (b.evs.flatMap evL)) (hn : b.evs.length ≤ 1000000) :
    Calls Tryd.prog 13 #[.agg (b.cells A c), .agg (b.cells A2 c2)] w (Is w (.bool true)) := by
  have h := same10_any b b A A2 c c2 w hr hr2 hn
  rwa [decide_eq_true rfl] at h
theorem same_self (b : Bk) (A A2 : Option Addr) (c c2 : Nat) (w : World) (hr : Rd w w.heap.size 11 A b.evs.length (b.evs.flatMap evL)) (hr2 : Rd w w.heap.size 11 A2 b.evs.length (b.evs.flatMap evL)) (hn : b.evs.length ≤ 1000000) :
    Calls Tryd.prog 24 #[.agg (b.cells A c), .agg (b.cells A2 c2)] w (Is w (.bool true)) := by
  have h := same_any b b A A2 c c2 w hr hr2 hn
  rwa [decide_eq_true rfl] at h
end Go.Proofs.YtnakabnmjnfpcaaDoor

set_option linter.all false
namespace Go.Proofs.YtnakabnmjnfpcaaDoor
open Go.RowKit
theorem incB_u8 (x : Nat) : Value.int .u8 (Go.IntKind.u8.wrap ((x : Int) + 1)) = .int .u8 ((incB x : Nat) : Int) := by
  have h := u8_mod (x + 1)
  rw [show ((x + 1 : Nat) : Int) = (x : Int) + 1 by omega] at h
  exact h
set_option maxRecDepth 100000 in
set_option maxHeartbeats 4000000 in
theorem tells10_any (b d : Bk) (hok : b.Ok) (hdk : d.Ok) (A A2 : Option Addr) (c c2 B : Nat) (w : World) (hL : LaidX B w) (hB : B ≤ w.heap.size) (hr : Rd w w.heap.size 11 A b.evs.length (b.evs.flatMap evL)) (hr2 : Rd w w.heap.size 11 A2 d.evs.length (d.evs.flatMap evL)) (hbn : b.evs.length ≤ 1000000) (hdn : d.evs.length ≤ 1000000) :
    Calls Tryd.prog 7 #[.agg (b.cells A c), .agg (d.cells A2 c2)] w (Is w (.bool true)) := by
 refine calls_enter (vs := [.agg (b.cells A c), .agg (d.cells A2 c2)]) Tryd.func7 rfl rfl (by kernel_rfl) (σ0 := [(0, .agg (b.cells A c)), (1, .agg (d.cells A2 c2))]) rfl ?_
 intro a HF
 have HM := Mem.start w
 refine wp_seq (from_start ?_)
 refine from_op HF (i := 0) rfl rfl ?_
 refine e_box HF HM (cs := (b.cells A c)) rfl rfl rfl rfl (by decide) ?_
 clear HF HM; intro a w2 g2 HF HM
 refine from_op HF (i := 1) rfl rfl ?_
 refine e_box HF HM (cs := (d.cells A2 c2)) rfl rfl rfl rfl (by decide) ?_
 clear HF HM; intro a w3 g3 HF HM
 refine fp HF 1 2 [(4, .bool false)] ?_; clear HF; intro a HF
 refine from_done rfl ?_
 refine wp_seq (from_start ?_)
 refine fy HF HM 0 rfl rfl rfl (v := .agg (b.cells A c)) (Yl.loadS rfl rfl si_bk rfl (fun _ h => range_of_block (h.blk (i := 1) rfl))) ?_; clear HF; intro a HF
 refine from_op HF (i := 1) rfl rfl ?_
 refine e_call HF (vs := [.agg (b.cells A c)]) rfl (by kernel_rfl) (by kernel_rfl) rfl (by decide) (lent10_any b A c _ (HM.old hr) (by omega)) ?_
 rintro _ w19 ⟨⟨A19, c19, rfl, ho, hc19⟩, hbw⟩
 refine ⟨_, rfl, ?_⟩
 replace HM := HM.callRow hbw ho
 clear HF; intro a HF
 refine from_op HF (i := 2) rfl rfl ?_
 refine e_alloc HF HM (cs := #[vB 0, vB 0, vI 0, vI 0, .slice none 0 0]) rfl (by kernel_rfl) rfl (by decide) ?_
 clear HF HM; intro a w5 g5 HF HM
 refine from_op HF (i := 3) rfl rfl ?_
 refine e_storeAll HF HM (i := 0) (cs := #[vB 0, vB 0, vI 0, vI 0, .slice none 0 0]) (ds := (b.cells A19 c19)) rfl rfl rfl rfl si_bk rfl rfl (bk_one _ _ _) rfl ?_
 clear HM; intro w1_3 HM
 refine from_done rfl ?_
 refine wp_seq (from_start ?_)
 refine fy HF HM 0 rfl rfl rfl (v := .agg (b.cells A c)) (Yl.loadS rfl rfl si_bk rfl (fun _ h => range_of_block (h.blk (i := 3) rfl))) ?_; clear HF; intro a HF
 refine from_op HF (i := 1) rfl rfl ?_
 refine e_call HF (vs := [.agg (b.cells A c)]) rfl (by kernel_rfl) (by kernel_rfl) rfl (by decide) (turned10_any b A c _ (HM.old hr) (by omega)) ?_
 rintro _ w21 ⟨⟨A21, c21, rfl, ho, hc21⟩, hbw⟩
 refine ⟨_, rfl, ?_⟩
 replace HM := HM.callRow hbw ho
 clear HF; intro a HF
 refine from_op HF (i := 2) rfl rfl ?_
 refine e_alloc HF HM (cs := #[vB 0, vB 0, vI 0, vI 0, .slice none 0 0]) rfl (by kernel_rfl) rfl (by decide) ?_
 clear HF HM; intro a w6 g6 HF HM
 refine from_op HF (i := 3) rfl rfl ?_
 refine e_storeAll HF HM (i := 0) (cs := #[vB 0, vB 0, vI 0, vI 0, .slice none 0 0]) (ds := (b.cells A21 c21)) rfl rfl rfl rfl si_rbk rfl rfl (bk_one _ _ _) rfl ?_
 clear HM; intro w2_3 HM
 refine from_done rfl ?_
 refine wp_seq (from_start ?_)
 refine fy HF HM 0 rfl rfl rfl (v := .agg (b.cells A19 c19)) (Yl.loadS rfl rfl si_bk rfl (fun _ h => range_of_block (h.blk (i := 2) rfl))) ?_; clear HF; intro a HF
 refine from_op HF (i := 1) rfl rfl ?_
 refine e_call HF (vs := [.agg (b.cells A19 c19)]) rfl (by kernel_rfl) (by kernel_rfl) rfl (by decide) (bwrite_is b hok A19 c19 B _ (hL.mem HM hB) (HM.le hB) (HM.rd (i := 3) rfl) (by omega) (rfl) (rfl)) ?_
 rintro _ w24 ⟨⟨A24, c24, rfl, ho, hc24⟩, hbw⟩
 refine ⟨_, rfl, ?_⟩
 replace HM := HM.callRow hbw ho
 clear HF; intro a HF
 refine fp HF 5 2 [(8, vI b.err), (7, .slice A24 ((b.out).length) c24), (26, vI b.err), (25, .slice A24 ((b.out).length) c24), (22, .tuple #[.slice A24 ((b.out).length) c24, vI b.err])] ?_; clear HF; intro a HF
 refine from_done rfl ?_
 refine wp_seq (from_start ?_)
 refine fy HF HM 0 rfl rfl rfl (v := .agg (b.cells A21 c21)) (Yl.loadS rfl rfl si_rbk rfl (fun _ h => range_of_block (h.blk (i := 1) rfl))) ?_; clear HF; intro a HF
 refine from_op HF (i := 1) rfl rfl ?_
 refine e_call HF (vs := [.agg (b.cells A21 c21)]) rfl (by kernel_rfl) (by kernel_rfl) rfl (by decide) (write10_any b hok A21 c21 _ (HM.rd (i := 2) rfl) (by omega)) ?_
 rintro _ w29 ⟨⟨A29, c29, rfl, ho, hc29⟩, hbw⟩
 refine ⟨_, rfl, ?_⟩
 replace HM := HM.callRow hbw ho
 clear HF; intro a HF
 refine fp HF 5 2 [(10, vI b.err), (9, .slice A29 ((b.out).length) c29), (31, vI b.err), (30, .slice A29 ((b.out).length) c29), (27, .tuple #[.slice A29 ((b.out).length) c29, vI b.err])] ?_; clear HF; intro a HF
 refine from_done rfl ?_
 refine wp_seq (from_start ?_)
 refine fy HF HM 0 rfl rfl rfl (v := .agg (b.cells A19 c19)) (Yl.loadS rfl rfl si_bk rfl (fun _ h => range_of_block (h.blk (i := 4) rfl))) ?_; clear HF; intro a HF
 refine from_op HF (i := 1) rfl rfl ?_
 refine e_call HF (vs := [.agg (b.cells A19 c19)]) rfl (by kernel_rfl) (by kernel_rfl) rfl (by decide) (bsize_is b hok A19 c19 B _ (hL.mem HM hB) (HM.le hB) (HM.rd (i := 5) rfl) (by omega) (rfl) (rfl)) ?_
 rintro _ w34 ⟨rfl, hbw⟩
 refine ⟨_, rfl, ?_⟩
 replace HM := HM.call hbw
 clear HF; intro a HF
 refine fp HF 5 2 [(12, vI b.err), (11, vI b.out.length), (36, vI b.err), (35, vI b.out.length), (32, .tuple #[vI b.out.length, vI b.err])] ?_; clear HF; intro a HF
 refine from_done rfl ?_
 replace HF := HF.to [(12, vI b.err), (11, vI b.out.length), (10, vI b.err), (9, .slice A29 ((b.out).length) c29), (8, vI b.err), (7, .slice A24 ((b.out).length) c24), (6, vP g6 0), (5, vP g5 0), (4, .bool false), (3, vP g3 0), (2, vP g2 0)]
 refine wp_seq (from_start ?_)
 refine fy HF HM 0 rfl rfl rfl (v := .agg (b.cells A19 c19)) (Yl.loadS rfl rfl si_bk rfl (fun _ h => range_of_block (h.blk (i := 4) rfl))) ?_; clear HF; intro a HF
 refine from_op HF (i := 1) rfl rfl ?_
 refine e_call HF (vs := [.agg (b.cells A19 c19)]) rfl (by kernel_rfl) (by kernel_rfl) rfl (by decide) (bfill_any b hok A19 c19 B _ (hL.mem HM hB) (HM.le hB) (HM.rd (i := 5) rfl) (by omega)) ?_
 rintro _ w39 ⟨rfl, hbw⟩
 refine ⟨_, rfl, ?_⟩
 replace HM := HM.call hbw
 clear HF; intro a HF
 refine fp HF 5 2 [(14, vI b.fill.2), (13, vI b.fill.1), (41, vI b.fill.2), (40, vI b.fill.1), (37, .tuple #[vI b.fill.1, vI b.fill.2])] ?_; clear HF; intro a HF
 refine from_done rfl ?_
 refine wp_seq (from_start ?_)
 refine fy HF HM 0 rfl rfl rfl (v := .agg (b.cells A21 c21)) (Yl.loadS rfl rfl si_rbk rfl (fun _ h => range_of_block (h.blk (i := 2) rfl))) ?_; clear HF; intro a HF
 refine from_op HF (i := 1) rfl rfl ?_
 refine e_call HF (vs := [.agg (b.cells A21 c21)]) rfl (by kernel_rfl) (by kernel_rfl) rfl (by decide) (fill10_any b hok A21 c21 _ (HM.rd (i := 3) rfl) (by omega) (by omega)) ?_
 rintro _ w44 ⟨rfl, hbw⟩
 refine ⟨_, rfl, ?_⟩
 replace HM := HM.call hbw
 clear HF; intro a HF
 refine fp HF 5 2 [(16, vI b.fill.2), (15, vI b.fill.1), (46, vI b.fill.2), (45, vI b.fill.1), (42, .tuple #[vI b.fill.1, vI b.fill.2])] ?_; clear HF; intro a HF
 refine from_done rfl ?_
 refine wp_seq (wp_seq (from_start ?_))
 refine fp HF 3 0 [(49, .bool ((b.err : Int) != (b.err : Int))), (48, vI b.err), (47, vI b.err)] ?_; clear HF; intro a HF
 replace HF := HF.as (t := 49) (u := .bool false) rfl (by simp)
 refine fp HF 4 3 [(53, .bool ((b.err : Int) != (b.err : Int))), (52, vI b.err), (51, vI b.err), (50, .bool false)] ?_; clear HF; intro a HF
 replace HF := HF.as (t := 53) (u := .bool false) rfl (by simp)
 refine fp HF 2 7 [(55, .bool false), (54, .bool false)] ?_; clear HF; intro a HF
 refine fy HF HM 9 rfl rfl rfl (v := .agg (b.cells A19 c19)) (Yl.loadS rfl rfl si_bk rfl (fun _ h => range_of_block (h.blk (i := 4) rfl))) ?_; clear HF; intro a HF
 refine from_op HF (i := 10) rfl rfl ?_
 refine e_call HF (vs := [.agg (b.cells A19 c19)]) rfl (by kernel_rfl) (by kernel_rfl) rfl (by decide) (bcheck_is b hok A19 c19 B _ (hL.mem HM hB) (HM.le hB) (HM.rd (i := 5) rfl) (by omega) (rfl)) ?_
 rintro _ w57 ⟨rfl, hbw⟩
 refine ⟨_, rfl, ?_⟩
 replace HM := HM.call hbw
 clear HF; intro a HF
 refine fp HF 2 11 [(59, .bool ((b.err : Int) != (b.err : Int))), (58, vI b.err)] ?_; clear HF; intro a HF
 replace HF := HF.as (t := 59) (u := .bool false) rfl (by simp)
 refine fp HF 3 13 [(62, .slice A24 ((b.out).length) c24), (61, .bool false), (60, .bool false)] ?_; clear HF; intro a HF
 refine fy HF HM 16 rfl rfl rfl (v := .string (bstr b.out)) (Yl.str rfl rfl (fun _ h => h.rd (i := 1) rfl)) ?_; clear HF; intro a HF
 refine fp HF 1 17 [(64, .slice A29 ((b.out).length) c29)] ?_; clear HF; intro a HF
 refine fy HF HM 18 rfl rfl rfl (v := .string (bstr b.out)) (Yl.str rfl rfl (fun _ h => h.rd (i := 0) rfl)) ?_; clear HF; intro a HF
 refine fp HF 1 19 [(66, .bool (!(((bstr b.out)).toList == ((bstr b.out)).toList)))] ?_; clear HF; intro a HF
 replace HF := HF.as (t := 66) (u := .bool false) rfl (by simp)
 refine fp HF 4 20 [(70, .slice A29 ((b.out).length) c29), (69, vI b.out.length), (68, .bool false), (67, .bool false)] ?_; clear HF; intro a HF
 refine fy HF HM 24 rfl rfl rfl (Yl.len rfl rfl (by kernel_rfl)) ?_; clear HF; intro a HF
 refine fp HF 1 25 [(72, .bool ((b.out.length : Int) != (((b.out).length : Nat) : Int)))] ?_; clear HF; intro a HF
 replace HF := HF.as (t := 72) (u := .bool false) rfl (by simp)
 refine fp HF 5 26 [(77, .bool ((b.fill.2 : Int) != (b.fill.2 : Int))), (76, vI b.fill.2), (75, vI b.fill.2), (74, .bool false), (73, .bool false)] ?_; clear HF; intro a HF
 replace HF := HF.as (t := 77) (u := .bool false) rfl (by simp)
 refine fp HF 5 31 [(82, .bool ((b.fill.1 : Int) != (b.fill.1 : Int))), (81, vI b.fill.1), (80, vI b.fill.1), (79, .bool false), (78, .bool false)] ?_; clear HF; intro a HF
 replace HF := HF.as (t := 82) (u := .bool false) rfl (by simp)
 refine fp HF 1 36 [(83, .bool false)] ?_; clear HF; intro a HF
 refine from_done rfl ?_
 replace HF := HF.to [(83, .bool false), (7, .slice A24 ((b.out).length) c24), (6, vP g6 0), (5, vP g5 0), (4, .bool false), (3, vP g3 0), (2, vP g2 0)]
 replace HM := HM.picks (fs' := [.row (.slice A24 ((b.out).length) c24) ((b.out).length) (b.out.map B8) 5 1, .blk g6 (b.cells A21 c21) 39, .row (.slice A21 b.evs.length c21) b.evs.length (b.evs.flatMap evL) 65 11, .blk g5 (b.cells A19 c19) 27, .row (.slice A19 b.evs.length c19) b.evs.length (b.evs.flatMap evL) 46 11, .blk g3 (d.cells A2 c2) 27, .blk g2 (b.cells A c) 27]) [1, 2, 3, 4, 5, 6, 7] (by decide) rfl
 refine cond_false HF rfl (wp_skip (wp_seq (wp_seq (from_start ?_))))
 refine fp HF 1 0 [(84, .slice A24 ((b.out).length) c24)] ?_; clear HF; intro a HF
 refine fy HF HM 1 rfl rfl rfl (Yl.len rfl rfl (by kernel_rfl)) ?_; clear HF; intro a HF
 refine fp HF 1 2 [(86, vI 0)] ?_; clear HF; intro a HF
 refine from_done rfl ?_
 replace HM := HM.asRow (i := 0) (ys := (updUp incB b.out 0).map B8) rfl (by rw [updUp_zero])
 refine wp_block ?_
 refine loop_nat (fun mS aS wS => ∃ (k : Nat), (k ≤ b.out.length) ∧ mS = b.out.length - k ∧ Fr aS 115 [] [(86, vI k), (85, vI ((b.out).length : Nat)), (83, .bool false), (7, .slice A24 ((b.out).length) c24), (6, vP g6 0), (5, vP g5 0), (4, .bool false), (3, vP g3 0), (2, vP g2 0)] ∧ Mem w wS [.row (.slice A24 ((b.out).length) c24) ((b.out).length) ((updUp incB b.out k).map B8) 5 1, .blk g6 (b.cells A21 c21) 39, .row (.slice A21 b.evs.length c21) b.evs.length (b.evs.flatMap evL) 65 11, .blk g5 (b.cells A19 c19) 27, .row (.slice A19 b.evs.length c19) b.evs.length (b.evs.flatMap evL) 46 11, .blk g3 (d.cells A2 c2) 27, .blk g2 (b.cells A c) 27]) (m := b.out.length - 0) ⟨0, Nat.zero_le _, rfl, HF.sub (by kernel_rfl), HM.picks [0, 1, 2, 3, 4, 5, 6] (by decide) rfl⟩ ?_
 clear HF HM; rintro mS a w_ ⟨k, hk, rfl, HF, HM⟩
 refine wp_seq (from_start ?_)
 refine fp HF 1 0 [(87, .bool (decide ((k : Int) < (((b.out).length : Nat) : Int))))] ?_; clear HF; intro a HF
 refine from_done rfl ?_
 refine wp_seq ?_
 rcases Bool.eq_false_or_eq_true (decide ((k : Int) < (((b.out).length : Nat) : Int))) with hb87 | hb87
 ·have HF := HF.on 87 hb87
  have hd87 := of_decide_eq_true hb87
  have hol := out_len b
  have hk87 : k < b.out.length := by omega
  have hul := updUp_len incB b.out k
  refine cond_true HF rfl (wp_skip (wp_seq (wp_block (wp_seq (from_start ?_)))))
  refine fp HF 2 0 [(17, vI k), (88, vI k)] ?_; clear HF; intro a HF
  refine from_done rfl ?_
  refine from_start ?_
  refine fp HF 2 0 [(90, vI k), (89, .slice A24 ((b.out).length) c24)] ?_; clear HF; intro a HF
  obtain ⟨gA24, rfl⟩ := own_some (HM.own (i := 0) rfl) (Nat.lt_of_le_of_lt (Nat.zero_le _) (show k < (b.out).length from by omega))
  refine fy HF HM 2 rfl rfl rfl (v := vP gA24 (k * 1)) ((Yl.indexAddr (ad := ⟨gA24, 0, none⟩) (y := k) (sz := 1) rfl rfl rfl (by omega) (by kernel_rfl)).as (by rw [Addr.add_mid, Nat.zero_add])) ?_; clear HF; intro a HF
  refine fy HF HM 3 rfl rfl rfl (v := vB ((updUp incB b.out k).getD k 0)) (Yl.load1 rfl rfl (by kernel_rfl) (fun _ h => h.rowOne (i := 0) rfl (k := k) (map_at (F := B8) (k := k) (x := ((updUp incB b.out k).getD k 0)) ((getD_at 0 (k := k) (by first | omega | (simp; omega))))))) ?_; clear HF; intro a HF
  refine fp HF 1 4 [(93, vB (IntKind.u8.wrap ((((updUp incB b.out k).getD k 0) : Int) + 1)))] ?_; clear HF; intro a HF
  replace HF := HF.as (t := 93) (u := vB (incB ((updUp incB b.out k).getD k 0) : Nat)) rfl (incB_u8 _)
  refine fy HF HM 5 rfl rfl rfl (v := vP gA24 (k * 1)) ((Yl.indexAddr (ad := ⟨gA24, 0, none⟩) (y := k) (sz := 1) rfl rfl rfl (by omega) (by kernel_rfl)).as (by rw [Addr.add_mid, Nat.zero_add])) ?_; clear HF; intro a HF
  refine from_op HF (i := 6) rfl rfl ?_
  refine e_storeRow HF HM (i := 0) rfl rfl rfl rfl (by kernel_rfl) rfl rfl (by rw [List.length_map, updUp_len]; omega) ?_
  clear HM; intro w13_6 HM
  replace HM := HM.asRow (i := 0) (ys := (updUp incB b.out (k + 1)).map B8) rfl ((putAt_one B8 (updUp incB b.out k) k (incB ((updUp incB b.out k).getD k 0)) (by omega)).trans (by rw [updUp_getD incB b.out 0 hk87, updUp_succ incB b.out 0 hk87]))
  refine from_done rfl ?_
  refine from_start ?_
  refine fp HF 1 0 [(95, vI (IntKind.i64.wrap ((k : Int) + 1)))] ?_; clear HF; intro a HF
  replace HF := HF.as (t := 95) (u := vI (k + 1 : Nat)) rfl (i64_nat (by omega) (by omega))
  refine fp HF 1 1 [(86, vI (k + 1 : Nat))] ?_; clear HF; intro a HF
  refine from_done rfl ?_
  exact ⟨_, (by omega), k + 1, by omega, rfl, HF.sub (by kernel_rfl), HM.picks [0, 1, 2, 3, 4, 5, 6] (by decide) rfl⟩
 ·have HF := HF.on 87 hb87
  have hd87 := of_decide_eq_false hb87
  refine cond_false HF rfl (wp_exit (wp_seq ?_))
  refine any_start (by kernel_rfl) (fun wS => Mem w wS [.row (.slice A24 ((b.out).length) c24) ((b.out).length) ((updUp incB b.out k).map B8) 5 1, .blk g6 (b.cells A21 c21) 39, .row (.slice A21 b.evs.length c21) b.evs.length (b.evs.flatMap evL) 65 11, .blk g5 (b.cells A19 c19) 27, .row (.slice A19 b.evs.length c19) b.evs.length (b.evs.flatMap evL) 46 11, .blk g3 (d.cells A2 c2) 27, .blk g2 (b.cells A c) 27]) [] ?_
  replace HM := HM.drew
  have HS := HM.picks (fs' := [.row (.slice A24 ((b.out).length) c24) ((b.out).length) ((updUp incB b.out k).map B8) 5 1, .blk g6 (b.cells A21 c21) 39, .row (.slice A21 b.evs.length c21) b.evs.length (b.evs.flatMap evL) 65 11, .blk g5 (b.cells A19 c19) 27, .row (.slice A19 b.evs.length c19) b.evs.length (b.evs.flatMap evL) 46 11, .blk g3 (d.cells A2 c2) 27, .blk g2 (b.cells A c) 27]) [0, 1, 2, 3, 4, 5, 6] (by decide) rfl
  refine ay HF HS 0 rfl rfl rfl (v := .agg (b.cells A19 c19)) (Yl.loadS rfl rfl si_bk rfl (fun _ h => range_of_block (h.blk (i := 3) rfl))) ?_; clear HF; intro a HF
  refine ay HF HS 2 rfl rfl rfl (v := .agg (b.cells A21 c21)) (Yl.loadS rfl rfl si_rbk rfl (fun _ h => range_of_block (h.blk (i := 1) rfl))) ?_; clear HF; intro a HF
  refine any_all [1] (by kernel_rfl) rfl ?_
  refine all_cons ?_ all_nil
  refine any_op HF (i := 1) rfl rfl ?_
  refine e_call HF (vs := [.agg (b.cells A19 c19)]) rfl (by kernel_rfl) (by kernel_rfl) rfl (by decide) (turned10_any b A19 c19 _ (HM.rd (i := 4) rfl) (by omega)) ?_
  rintro _ w97 ⟨⟨A97, c97, rfl, ho, hc97⟩, hbw⟩
  refine ⟨_, rfl, ?_⟩
  replace HM := HM.callRow hbw ho
  clear HF; intro a HF
  refine keepS (HM.picks [1, 2, 3, 4, 5, 6, 7] (by decide) rfl) (fun HS => ?_)
  refine any_all [3] (by kernel_rfl) rfl ?_
  refine all_cons ?_ all_nil
  refine any_op HF (i := 3) rfl rfl ?_
  refine e_call HF (vs := [.agg (b.cells A97 c97), .agg (b.cells A21 c21)]) rfl (by kernel_rfl) (by kernel_rfl) rfl (by decide) (same10_self b A97 A21 c97 c21 _ (HM.rd (i := 0) rfl) (HM.rd (i := 3) rfl) (by omega)) ?_
  rintro _ w99 ⟨rfl, hbw⟩
  refine ⟨_, rfl, ?_⟩
  replace HM := HM.call hbw
  clear HF; intro a HF
  refine keepS (HM.picks [1, 2, 3, 4, 5, 6, 7] (by decide) rfl) (fun HS => ?_)
  refine ap HF (fun _ => HS) [4] #[true, true, true, true, true, false, false, false, false, false, false, false, false, false, false, false, false, false, false, false] [(100, .bool true)] ?_; clear HF; intro a HF
  refine ay HF HS 5 rfl rfl rfl (v := .agg (b.cells A c)) (Yl.loadS rfl rfl si_bk rfl (fun _ h => range_of_block (h.blk (i := 6) rfl))) ?_; clear HF; intro a HF
  refine ay HF HS 6 rfl rfl rfl (v := .agg (d.cells A2 c2)) (Yl.loadS rfl rfl si_bk rfl (fun _ h => range_of_block (h.blk (i := 5) rfl))) ?_; clear HF; intro a HF
  refine ay HF HS 8 rfl rfl rfl (v := .agg (b.cells A21 c21)) (Yl.loadS rfl rfl si_rbk rfl (fun _ h => range_of_block (h.blk (i := 1) rfl))) ?_; clear HF; intro a HF
  refine ay HF HS 9 rfl rfl rfl (v := .agg (d.cells A2 c2)) (Yl.loadS rfl rfl si_bk rfl (fun _ h => range_of_block (h.blk (i := 5) rfl))) ?_; clear HF; intro a HF
  refine any_all [7] (by kernel_rfl) rfl ?_
  refine all_cons ?_ all_nil
  refine any_op HF (i := 7) rfl rfl ?_
  refine e_call HF (vs := [.agg (b.cells A c), .agg (d.cells A2 c2)]) rfl (by kernel_rfl) (by kernel_rfl) rfl (by decide) (same_any b d A A2 c c2 _ (HM.old hr) (HM.old hr2) (by omega)) ?_
  rintro _ w103 ⟨rfl, hbw⟩
  refine ⟨_, rfl, ?_⟩
  replace HM := HM.call hbw
  clear HF; intro a HF
  refine keepS (HM.picks [1, 2, 3, 4, 5, 6, 7] (by decide) rfl) (fun HS => ?_)
  refine any_all [10] (by kernel_rfl) rfl ?_
  refine all_cons ?_ all_nil
  refine any_op HF (i := 10) rfl rfl ?_
  refine e_call HF (vs := [.agg (d.cells A2 c2)]) rfl (by kernel_rfl) (by kernel_rfl) rfl (by decide) (turned10_any d A2 c2 _ (HM.old hr2) (by omega)) ?_
  rintro _ w106 ⟨⟨A106, c106, rfl, ho, hc106⟩, hbw⟩
  refine ⟨_, rfl, ?_⟩
  replace HM := HM.callRow hbw ho
  clear HF; intro a HF
  refine keepS (HM.picks [2, 3, 4, 5, 6, 7, 8] (by decide) rfl) (fun HS => ?_)
  refine any_all [11] (by kernel_rfl) rfl ?_
  refine all_cons ?_ all_nil
  refine any_op HF (i := 11) rfl rfl ?_
  refine e_call HF (vs := [.agg (b.cells A21 c21), .agg (d.cells A106 c106)]) rfl (by kernel_rfl) (by kernel_rfl) rfl (by decide) (same10_any b d A21 A106 c21 c106 _ (HM.rd (i := 4) rfl) (HM.rd (i := 0) rfl) (by omega)) ?_
  rintro _ w107 ⟨rfl, hbw⟩
  refine ⟨_, rfl, ?_⟩
  replace HM := HM.call hbw
  clear HF; intro a HF
  refine keepS (HM.picks [2, 3, 4, 5, 6, 7, 8] (by decide) rfl) (fun HS => ?_)
  refine ay HF HS 12 rfl rfl rfl (v := .bool ((decide (b = d)) == (decide (b = d)))) (Yl.eqlBool rfl rfl rfl (by kernel_rfl)) ?_; clear HF; intro a HF
  replace HF := HF.as (t := 108) (u := .bool true) rfl (by simp)
  refine ap HF (fun _ => HS) [13, 14] #[true, true, true, true, true, true, true, true, true, true, true, true, true, true, true, false, false, false, false, false] [(110, .bool true), (109, .bool true)] ?_; clear HF; intro a HF
  refine ay HF HS 15 rfl rfl rfl (v := .agg (b.cells A c)) (Yl.loadS rfl rfl si_bk rfl (fun _ h => range_of_block (h.blk (i := 6) rfl))) ?_; clear HF; intro a HF
  refine ay HF HS 16 rfl rfl rfl (v := .agg (b.cells A19 c19)) (Yl.loadS rfl rfl si_bk rfl (fun _ h => range_of_block (h.blk (i := 3) rfl))) ?_; clear HF; intro a HF
  refine any_all [17] (by kernel_rfl) rfl ?_
  refine all_cons ?_ all_nil
  refine any_op HF (i := 17) rfl rfl ?_
  refine e_call HF (vs := [.agg (b.cells A c), .agg (b.cells A19 c19)]) rfl (by kernel_rfl) (by kernel_rfl) rfl (by decide) (same_self b A A19 c c19 _ (HM.old hr) (HM.rd (i := 6) rfl) (by omega)) ?_
  rintro _ w113 ⟨rfl, hbw⟩
  refine ⟨_, rfl, ?_⟩
  replace HM := HM.call hbw
  clear HF; intro a HF
  refine keepS (HM.picks [2, 3, 4, 5, 6, 7, 8] (by decide) rfl) (fun HS => ?_)
  refine ap HF (fun _ => HS) [18, 19] #[true, true, true, true, true, true, true, true, true, true, true, true, true, true, true, true, true, true, true, true] [(4, .bool true), (114, .bool true)] ?_; clear HF; intro a HF
  refine any_done (by kernel_rfl) ?_
  replace HF := HF.to [(4, .bool true), (87, .bool false), (86, vI k), (85, vI ((b.out).length : Nat)), (83, .bool false), (7, .slice A24 ((b.out).length) c24), (6, vP g6 0), (5, vP g5 0), (2, vP g2 0)]
  replace HM := HM.picks (fs' := [.row (.slice A106 d.evs.length c106) d.evs.length (d.evs.flatMap evL) 65 11, .row (.slice A97 b.evs.length c97) b.evs.length (b.evs.flatMap evL) 65 11, .row (.slice A24 ((b.out).length) c24) ((b.out).length) ((updUp incB b.out k).map B8) 5 1, .blk g6 (b.cells A21 c21) 39, .row (.slice A21 b.evs.length c21) b.evs.length (b.evs.flatMap evL) 65 11, .blk g5 (b.cells A19 c19) 27, .row (.slice A19 b.evs.length c19) b.evs.length (b.evs.flatMap evL) 46 11, .blk g2 (b.cells A c) 27]) [0, 1, 2, 3, 4, 5, 6, 8] (by decide) rfl
  refine wp_ret ?_
  exact ret1 rfl HF (.tmp HF rfl) (⟨rfl, HM.below⟩)
set_option maxRecDepth 100000 in
set_option maxHeartbeats 4000000 in
theorem blockTells_any (b d : Bk) (hok : b.Ok) (hdk : d.Ok) (A A2 : Option Addr) (c c2 B : Nat) (w : World) (hL : LaidX B w) (hB : B ≤ w.heap.size) (hr : Rd w w.heap.size 11 A b.evs.length (b.evs.flatMap evL)) (hr2 : Rd w w.heap.size 11 A2 d.evs.length (d.evs.flatMap evL)) :
    Calls Tryd.prog 4 #[.agg (b.cells A c), .agg (d.cells A2 c2)] w (Is w (.bool true)) := by
 refine calls_enter (vs := [.agg (b.cells A c), .agg (d.cells A2 c2)]) Tryd.func4 rfl rfl (by kernel_rfl) (σ0 := [(0, .agg (b.cells A c)), (1, .agg (d.cells A2 c2))]) rfl ?_
 intro a HF
 have HM := Mem.start w
 refine wp_seq (from_start ?_)
 refine from_op HF (i := 0) rfl rfl ?_
 refine e_box HF HM (cs := (b.cells A c)) rfl rfl rfl rfl (by decide) ?_
 clear HF HM; intro a w2 g2 HF HM
 refine from_op HF (i := 1) rfl rfl ?_
 refine e_box HF HM (cs := (d.cells A2 c2)) rfl rfl rfl rfl (by decide) ?_
 clear HF HM; intro a w3 g3 HF HM
 refine fp HF 1 2 [(4, .bool false)] ?_; clear HF; intro a HF
 refine from_done rfl ?_
 refine wp_seq (from_start ?_)
 refine fp HF 1 0 [(5, vP g2 4)] ?_; clear HF; intro a HF
 refine fy HF HM 1 rfl rfl rfl (v := .slice A b.evs.length c) (Yl.load1 rfl rfl (by kernel_rfl) (fun _ h => h.cell (i := 1) rfl (rfl))) ?_; clear HF; intro a HF
 refine fy HF HM 2 rfl rfl rfl (Yl.len rfl rfl (by kernel_rfl)) ?_; clear HF; intro a HF
 refine fp HF 2 3 [(9, .bool (decide ((b.evs.length : Int) > (300 : Int)))), (8, .bool (decide ((b.evs.length : Int) > (300 : Int))))] ?_; clear HF; intro a HF
 rcases Bool.eq_false_or_eq_true (decide ((b.evs.length : Int) > (300 : Int))) with hb9 | hb9
 ·have HF := HF.on 9 hb9
  have hd9 := of_decide_eq_true hb9
  refine fp HF 11 5 [(20, .bool true), (19, .bool true), (18, undef), (17, undef), (16, undef), (15, .bool true), (14, .bool true), (13, undef), (12, undef), (11, undef), (10, undef)] ?_; clear HF; intro a HF
  refine from_op HF (i := 16) rfl rfl ?_
  refine e_call HF (vs := []) rfl (by kernel_rfl) (by kernel_rfl) rfl (by decide) (bawake_any B _ (hL.mem HM hB) (HM.le hB)) ?_
  rintro _ w21 ⟨rfl, hbw⟩
  refine ⟨_, rfl, ?_⟩
  replace HM := HM.call hbw
  clear HF; intro a HF
  refine fp HF 2 17 [(4, .bool true), (22, .bool true)] ?_; clear HF; intro a HF
  refine from_done rfl ?_
  replace HF := HF.to [(4, .bool true)]
  replace HM := HM.picks (fs' := []) [] (by decide) rfl
  refine wp_ret ?_
  exact ret1 rfl HF (.tmp HF rfl) (⟨rfl, HM.below⟩)
 ·have HF := HF.on 9 hb9
  have hd9 := of_decide_eq_false hb9
  refine fp HF 1 5 [(10, vP g3 4)] ?_; clear HF; intro a HF
  refine fy HF HM 6 rfl rfl rfl (v := .slice A2 d.evs.length c2) (Yl.load1 rfl rfl (by kernel_rfl) (fun _ h => h.cell (i := 0) rfl (rfl))) ?_; clear HF; intro a HF
  refine fy HF HM 7 rfl rfl rfl (Yl.len rfl rfl (by kernel_rfl)) ?_; clear HF; intro a HF
  refine fp HF 3 8 [(15, .bool (decide ((d.evs.length : Int) > (300 : Int)))), (14, .bool (decide ((d.evs.length : Int) > (300 : Int)))), (13, .bool (decide ((d.evs.length : Int) > (300 : Int))))] ?_; clear HF; intro a HF
  rcases Bool.eq_false_or_eq_true (decide ((d.evs.length : Int) > (300 : Int))) with hb15 | hb15
  ·have HF := HF.on 15 hb15
   have hd15 := of_decide_eq_true hb15
   refine fp HF 5 11 [(20, .bool true), (19, .bool true), (18, undef), (17, undef), (16, undef)] ?_; clear HF; intro a HF
   refine from_op HF (i := 16) rfl rfl ?_
   refine e_call HF (vs := []) rfl (by kernel_rfl) (by kernel_rfl) rfl (by decide) (bawake_any B _ (hL.mem HM hB) (HM.le hB)) ?_
   rintro _ w21 ⟨rfl, hbw⟩
   refine ⟨_, rfl, ?_⟩
   replace HM := HM.call hbw
   clear HF; intro a HF
   refine fp HF 2 17 [(4, .bool true), (22, .bool true)] ?_; clear HF; intro a HF
   refine from_done rfl ?_
   replace HF := HF.to [(4, .bool true)]
   replace HM := HM.picks (fs' := []) [] (by decide) rfl
   refine wp_ret ?_
   exact ret1 rfl HF (.tmp HF rfl) (⟨rfl, HM.below⟩)
  ·have HF := HF.on 15 hb15
   have hd15 := of_decide_eq_false hb15
   refine fy HF HM 11 rfl rfl rfl (v := .agg (b.cells A c)) (Yl.loadS rfl rfl si_bk rfl (fun _ h => range_of_block (h.blk (i := 1) rfl))) ?_; clear HF; intro a HF
   refine fy HF HM 12 rfl rfl rfl (v := .agg (d.cells A2 c2)) (Yl.loadS rfl rfl si_bk rfl (fun _ h => range_of_block (h.blk (i := 0) rfl))) ?_; clear HF; intro a HF
   refine from_op HF (i := 13) rfl rfl ?_
   refine e_call HF (vs := [.agg (b.cells A c), .agg (d.cells A2 c2)]) rfl (by kernel_rfl) (by kernel_rfl) rfl (by decide) (tells10_any b d hok hdk A A2 c c2 B _ (hL.mem HM hB) (HM.le hB) (HM.old hr) (HM.old hr2) (by omega) (by omega)) ?_
   rintro _ w18 ⟨rfl, hbw⟩
   refine ⟨_, rfl, ?_⟩
   replace HM := HM.call hbw
   clear HF; intro a HF
   refine fp HF 2 14 [(20, .bool true), (19, .bool true)] ?_; clear HF; intro a HF
   refine from_op HF (i := 16) rfl rfl ?_
   refine e_call HF (vs := []) rfl (by kernel_rfl) (by kernel_rfl) rfl (by decide) (bawake_any B _ (hL.mem HM hB) (HM.le hB)) ?_
   rintro _ w21 ⟨rfl, hbw⟩
   refine ⟨_, rfl, ?_⟩
   replace HM := HM.call hbw
   clear HF; intro a HF
   refine fp HF 2 17 [(4, .bool true), (22, .bool true)] ?_; clear HF; intro a HF
   refine from_done rfl ?_
   replace HF := HF.to [(4, .bool true)]
   replace HM := HM.picks (fs' := []) [] (by decide) rfl
   refine wp_ret ?_
   exact ret1 rfl HF (.tmp HF rfl) (⟨rfl, HM.below⟩)
end Go.Proofs.YtnakabnmjnfpcaaDoor

