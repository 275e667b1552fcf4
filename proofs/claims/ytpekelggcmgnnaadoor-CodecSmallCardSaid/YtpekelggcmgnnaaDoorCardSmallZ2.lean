/- Texts laid together: PutW, RowW, TakeW, ReadW, TurnedW, WriteW, TellsW, RowsW, RowscW. -/
import Derived.Test.YtpekelggcmgnnaaDoorRef01
import Derived.Test.YtpekelggcmgnnaaDoorCardSmallZ1
/- quantumref07.Put is what codec.Put is. -/
set_option linter.all false
namespace Go.Proofs.YtpekelggcmgnnaaDoor
open Go.RowKit
theorem u64_sub {x y : Int} (h : y ≤ x) (h2 : x - y < 9223372036854775808) : IntKind.u64.wrap (IntKind.i64.wrap (x - y)) = ((x - y).toNat : Int) := by
  rw [IntWalk.i64_in _ (by omega), IntKind.wrap_u64]; omega
theorem putErr_good {b : Bs} {e : Ev} (h : e.check = 0) (h2 : b.right = true ∧ b.behind e = true) : putErr b e = 0 := by unfold putErr; rw [if_neg (by simp [h]), if_pos h2]
theorem putOut_good {b : Bs} {e : Ev} (h : e.check = 0) (h2 : b.right = true ∧ b.behind e = true) : putOut b e = recBytes b e := by unfold putOut; rw [if_pos (putErr_good h h2)]
theorem putOut_bad {b : Bs} {e : Ev} (h : putErr b e ≠ 0) : putOut b e = [] := by unfold putOut; rw [if_neg h]
theorem vals_64 {e : Ev} (he : e.Ok) : ∀ x ∈ e.vals, x < 18446744073709551616 := by
  intro x hx
  unfold Ev.vals at hx
  obtain ⟨i, _, rfl⟩ := List.mem_map.1 hx
  have h1 := he.task.2; have h2 := he.group.2; have h3 := he.to.2; have h4 := he.weight.2; have h5 := he.ticks.2; have h6 := he.mask; have h7 := he.got.2
  unfold Ev.fld
  split <;> omega
set_option maxRecDepth 100000 in
set_option maxHeartbeats 4000000 in
theorem put07_any (b : Bs) (e : Ev) (he : e.Ok) (w : World) : Calls Tryd.prog 24 #[.agg b.cells, .agg e.cells] w (BytesIs w (putErr b e) (putOut b e)) := by
  refine calls_enter (vs := [.agg b.cells, .agg e.cells]) Tryd.func24 rfl rfl (by kernel_rfl) (σ0 := [(0, .agg b.cells), (1, .agg e.cells)]) rfl ?_
  intro a HF
  have HM := Mem.start w
  refine wp_seq ?_
  refine from_start ?_
  refine from_op HF (i := 0) rfl rfl ?_
  refine e_box HF HM (cs := b.cells) rfl rfl rfl rfl (by decide) ?_
  clear HF HM; intro a w2 g2 HF HM
  refine from_op HF (i := 1) rfl rfl ?_
  refine e_box HF HM (cs := e.cells) rfl rfl rfl rfl (by decide) ?_
  clear HF HM; intro a w3 g3 HF HM
  refine from_pures HF 2 2 (j := 4) [(5, .int .i64 0), (4, .slice none 0 0)] (by kernel_rfl) rfl ?_; clear HF; intro a HF
  refine from_done rfl ?_
  replace HF := HF.sub (σ' := [(5, .int .i64 0), (4, .slice none 0 0), (3, .pointer (some ⟨g3, 0, none⟩)), (2, .pointer (some ⟨g2, 0, none⟩))]) (by kernel_rfl)
  refine wp_seq ?_
  refine from_start ?_
  refine from_yl (S := fun wS => Mem w wS _) HF HM (i := 0) rfl rfl (d := 11) rfl (by decide) (v := .agg e.cells) (Yl.loadS rfl rfl ⟨(by kernel_rfl), (by kernel_rfl)⟩ rfl (fun _ h => range_of_block (h.blk (i := 0) rfl))) ?_; clear HF; intro a HF
  refine from_op HF (i := 1) rfl rfl ?_
  refine e_call HF (vs := [.agg e.cells]) rfl (by kernel_rfl) (by kernel_rfl) rfl (by decide) (values06_any e he _) ?_
  rintro _ w12 ⟨⟨v, rfl, ho⟩, hbw⟩
  obtain ⟨A12, c12, rfl, hc12⟩ := own_slice ho
  refine ⟨_, rfl, ?_⟩
  replace HM := HM.callRow hbw ho
  clear HF; intro a HF
  refine from_pures HF 5 2 (j := 7) [(7, .int .i64 (e.check : Int)), (6, .slice A12 e.outVals.length c12), (14, .int .i64 (e.check : Int)), (13, .slice A12 e.outVals.length c12), (10, .tuple #[.slice A12 e.outVals.length c12, .int .i64 (e.check : Int)])] (by kernel_rfl) rfl ?_; clear HF; intro a HF
  refine from_done rfl ?_
  replace HF := HF.sub (σ' := [(7, .int .i64 (e.check : Int)), (6, .slice A12 e.outVals.length c12), (5, .int .i64 0), (4, .slice none 0 0), (3, .pointer (some ⟨g3, 0, none⟩)), (2, .pointer (some ⟨g2, 0, none⟩))]) (by kernel_rfl)
  refine wp_seq ?_
  refine wp_seq ?_
  refine from_start ?_
  refine from_pures HF 2 0 (j := 2) [(16, .bool (((e.check : Int) : Int) != (0 : Int))), (15, .int .i64 (e.check : Int))] (by kernel_rfl) rfl ?_; clear HF; intro a HF
  refine from_done rfl ?_
  replace HF := HF.sub (σ' := [(16, .bool (((e.check : Int) : Int) != (0 : Int))), (7, .int .i64 (e.check : Int)), (6, .slice A12 e.outVals.length c12), (5, .int .i64 0), (4, .slice none 0 0), (3, .pointer (some ⟨g3, 0, none⟩)), (2, .pointer (some ⟨g2, 0, none⟩))]) (by kernel_rfl)
  rcases Bool.eq_false_or_eq_true (((e.check : Int) : Int) != (0 : Int)) with hb16 | hb16
  · have HF := HF.as (t := 16) (u := .bool true) rfl (by rw [hb16])
    have hbad : e.check ≠ 0 := by rw [bne_iff_ne] at hb16; omega
    refine cond_true HF rfl ?_
    refine wp_seq ?_
    refine from_start ?_
    refine from_pures HF 3 0 (j := 3) [(5, .int .i64 (e.check : Int)), (4, .slice none 0 0), (17, .int .i64 (e.check : Int))] (by kernel_rfl) rfl ?_; clear HF; intro a HF
    refine from_done rfl ?_
    replace HF := HF.sub (σ' := [(5, .int .i64 (e.check : Int)), (4, .slice none 0 0), (16, .bool true), (7, .int .i64 (e.check : Int)), (6, .slice A12 e.outVals.length c12), (3, .pointer (some ⟨g3, 0, none⟩)), (2, .pointer (some ⟨g2, 0, none⟩))]) (by kernel_rfl)
    refine wp_ret ?_
    exact ret2 rfl HF (.tmp HF rfl) (.tmp HF rfl) (⟨⟨none, 0, by rw [putOut_bad (by rw [show putErr b e = e.check from by unfold putErr; rw [if_pos hbad]]; exact hbad), show putErr b e = e.check from by unfold putErr; rw [if_pos hbad]]; rfl, by rw [putOut_bad (by rw [show putErr b e = e.check from by unfold putErr; rw [if_pos hbad]]; exact hbad)]; exact World.ownsRow_nil _ _ _ _, by rw [putOut_bad (by rw [show putErr b e = e.check from by unfold putErr; rw [if_pos hbad]]; exact hbad)]; exact Nat.le_refl _⟩, HM.below⟩)
  · have HF := HF.as (t := 16) (u := .bool false) rfl (by rw [hb16])
    have hgood : e.check = 0 := by rw [bne_eq_false_iff_eq] at hb16; omega
    have hov : e.outVals = e.vals := by unfold Ev.outVals; rw [if_pos hgood]
    obtain ⟨_, _, _, q1, q2, q3, q4⟩ := ok_vals hgood
    have hvl := vals_len e
    rw [← hov] at hvl
    have hx64 := vals_64 he
    refine cond_false HF rfl ?_
    refine wp_skip ?_
    refine wp_seq ?_
    refine cut_seq (fun aS wS => Fr aS 70 [] [(34, .bool (!(b.right && b.behind e))), (16, .bool false), (7, .int .i64 (e.check : Int)), (6, .slice A12 e.outVals.length c12), (5, .int .i64 0), (4, .slice none 0 0), (3, .pointer (some ⟨g3, 0, none⟩)), (2, .pointer (some ⟨g2, 0, none⟩))] ∧ Mem w wS [.row (.slice A12 e.outVals.length c12) e.outVals.length (e.outVals.map U64) 35 1, .blk g3 e.cells 64, .blk g2 b.cells 63]) ?_ ?_
    ·
      refine from_start ?_
      refine from_yl (S := fun wS => Mem w wS _) HF HM (i := 0) rfl rfl (d := 18) rfl (by decide) (v := .agg b.cells) (Yl.loadS rfl rfl ⟨(by kernel_rfl), (by kernel_rfl)⟩ rfl (fun _ h => range_of_block (h.blk (i := 2) rfl))) ?_; clear HF; intro a HF
      refine from_op HF (i := 1) rfl rfl ?_
      refine e_call HF (vs := [.agg b.cells]) rfl (by kernel_rfl) (by kernel_rfl) rfl (by decide) (right07_any b _) ?_
      rintro _ w19 ⟨rfl, hbw⟩
      refine ⟨_, rfl, ?_⟩
      replace HM := HM.call hbw
      clear HF; intro a HF
      refine from_pures HF 2 2 (j := 4) [(21, .bool (!b.right)), (20, .bool (!b.right))] (by kernel_rfl) rfl ?_; clear HF; intro a HF
      rcases Bool.eq_false_or_eq_true (!b.right) with hb21 | hb21
      · have HF := HF.as (t := 21) (u := .bool true) rfl (by rw [hb21])
        refine from_pures HF 13 4 (j := 17) [(34, .bool true), (33, undef), (32, undef), (31, undef), (30, undef), (29, undef), (28, .bool true), (27, .bool true), (26, undef), (25, undef), (24, undef), (23, undef), (22, undef)] (by kernel_rfl) rfl ?_; clear HF; intro a HF
        refine from_done rfl ?_
        replace HF := HF.sub (σ' := [(34, .bool true), (16, .bool false), (7, .int .i64 (e.check : Int)), (6, .slice A12 e.outVals.length c12), (5, .int .i64 0), (4, .slice none 0 0), (3, .pointer (some ⟨g3, 0, none⟩)), (2, .pointer (some ⟨g2, 0, none⟩))]) (by kernel_rfl)
        have HF := HF.as (t := 34) (u := .bool (!(b.right && b.behind e))) rfl (congrArg Value.bool (by unfold Bs.behind; (try simp at hb16); (try simp at hb21); rw [Bool.eq_iff_iff]; (try simp [hb16, hb21]); (try omega)))
        exact ⟨HF.sub (by kernel_rfl), HM.picks [0, 1, 2] (by decide) rfl⟩
      · have HF := HF.as (t := 21) (u := .bool false) rfl (by rw [hb21])
        refine from_pures HF 1 4 (j := 5) [(22, .pointer (some ⟨g3, 0, none⟩))] (by kernel_rfl) rfl ?_; clear HF; intro a HF
        refine from_yl (S := fun wS => Mem w wS _) HF HM (i := 5) rfl rfl (d := 23) rfl (by decide) (v := .int .i64 e.seq) (Yl.load1 rfl rfl (by kernel_rfl) (fun _ h => h.cell (i := 1) rfl rfl)) ?_; clear HF; intro a HF
        refine from_pures HF 1 6 (j := 7) [(24, .pointer (some ⟨g2, 0, none⟩))] (by kernel_rfl) rfl ?_; clear HF; intro a HF
        refine from_yl (S := fun wS => Mem w wS _) HF HM (i := 7) rfl rfl (d := 25) rfl (by decide) (v := .int .i64 b.seq) (Yl.load1 rfl rfl (by kernel_rfl) (fun _ h => h.cell (i := 2) rfl rfl)) ?_; clear HF; intro a HF
        refine from_pures HF 3 8 (j := 11) [(28, .bool (decide ((e.seq : Int) < (b.seq : Int)))), (27, .bool (decide ((e.seq : Int) < (b.seq : Int)))), (26, .bool (decide ((e.seq : Int) < (b.seq : Int))))] (by kernel_rfl) rfl ?_; clear HF; intro a HF
        rcases Bool.eq_false_or_eq_true (decide ((e.seq : Int) < (b.seq : Int))) with hb28 | hb28
        · have HF := HF.as (t := 28) (u := .bool true) rfl (by rw [hb28])
          refine from_pures HF 6 11 (j := 17) [(34, .bool true), (33, undef), (32, undef), (31, undef), (30, undef), (29, undef)] (by kernel_rfl) rfl ?_; clear HF; intro a HF
          refine from_done rfl ?_
          replace HF := HF.sub (σ' := [(34, .bool true), (16, .bool false), (7, .int .i64 (e.check : Int)), (6, .slice A12 e.outVals.length c12), (5, .int .i64 0), (4, .slice none 0 0), (3, .pointer (some ⟨g3, 0, none⟩)), (2, .pointer (some ⟨g2, 0, none⟩))]) (by kernel_rfl)
          have HF := HF.as (t := 34) (u := .bool (!(b.right && b.behind e))) rfl (congrArg Value.bool (by unfold Bs.behind; (try simp at hb16); (try simp at hb21); (try simp at hb28); rw [Bool.eq_iff_iff]; (try simp [hb16, hb21, hb28]); (try omega)))
          exact ⟨HF.sub (by kernel_rfl), HM.picks [0, 1, 2] (by decide) rfl⟩
        · have HF := HF.as (t := 28) (u := .bool false) rfl (by rw [hb28])
          refine from_pures HF 1 11 (j := 12) [(29, .pointer (some ⟨g3, 1, none⟩))] (by kernel_rfl) rfl ?_; clear HF; intro a HF
          refine from_yl (S := fun wS => Mem w wS _) HF HM (i := 12) rfl rfl (d := 30) rfl (by decide) (v := .int .i64 e.time) (Yl.load1 rfl rfl (by kernel_rfl) (fun _ h => h.cell (i := 1) rfl rfl)) ?_; clear HF; intro a HF
          refine from_pures HF 1 13 (j := 14) [(31, .pointer (some ⟨g2, 1, none⟩))] (by kernel_rfl) rfl ?_; clear HF; intro a HF
          refine from_yl (S := fun wS => Mem w wS _) HF HM (i := 14) rfl rfl (d := 32) rfl (by decide) (v := .int .i64 b.time) (Yl.load1 rfl rfl (by kernel_rfl) (fun _ h => h.cell (i := 2) rfl rfl)) ?_; clear HF; intro a HF
          refine from_pures HF 2 15 (j := 17) [(34, .bool (decide ((e.time : Int) < (b.time : Int)))), (33, .bool (decide ((e.time : Int) < (b.time : Int))))] (by kernel_rfl) rfl ?_; clear HF; intro a HF
          refine from_done rfl ?_
          replace HF := HF.sub (σ' := [(34, .bool (decide ((e.time : Int) < (b.time : Int)))), (16, .bool false), (7, .int .i64 (e.check : Int)), (6, .slice A12 e.outVals.length c12), (5, .int .i64 0), (4, .slice none 0 0), (3, .pointer (some ⟨g3, 0, none⟩)), (2, .pointer (some ⟨g2, 0, none⟩))]) (by kernel_rfl)
          have HF := HF.as (t := 34) (u := .bool (!(b.right && b.behind e))) rfl (congrArg Value.bool (by unfold Bs.behind; (try simp at hb16); (try simp at hb21); (try simp at hb28); rw [Bool.eq_iff_iff]; (try simp [hb16, hb21, hb28]); (try omega)))
          exact ⟨HF.sub (by kernel_rfl), HM.picks [0, 1, 2] (by decide) rfl⟩
    clear HF HM; rintro a w4 ⟨HF, HM⟩
    rcases Bool.eq_false_or_eq_true (!(b.right && b.behind e)) with hb34 | hb34
    · have HF := HF.as (t := 34) (u := .bool true) rfl (by rw [hb34])
      have hrb : ¬ (b.right = true ∧ b.behind e = true) := by intro h; rw [h.1, h.2] at hb34; cases hb34
      refine cond_true HF rfl ?_
      refine wp_seq ?_
      refine from_start ?_
      refine from_pures HF 2 0 (j := 2) [(5, .int .i64 70), (4, .slice none 0 0)] (by kernel_rfl) rfl ?_; clear HF; intro a HF
      refine from_done rfl ?_
      replace HF := HF.sub (σ' := [(5, .int .i64 70), (4, .slice none 0 0), (34, .bool true), (16, .bool false), (7, .int .i64 (e.check : Int)), (6, .slice A12 e.outVals.length c12), (3, .pointer (some ⟨g3, 0, none⟩)), (2, .pointer (some ⟨g2, 0, none⟩))]) (by kernel_rfl)
      refine wp_ret ?_
      exact ret2 rfl HF (.tmp HF rfl) (.tmp HF rfl) (⟨⟨none, 0, by rw [putOut_bad (by rw [show putErr b e = 70 from by unfold putErr; rw [if_neg (by simp [hgood]), if_neg hrb]]; decide), show putErr b e = 70 from by unfold putErr; rw [if_neg (by simp [hgood]), if_neg hrb]]; rfl, by rw [putOut_bad (by rw [show putErr b e = 70 from by unfold putErr; rw [if_neg (by simp [hgood]), if_neg hrb]]; decide)]; exact World.ownsRow_nil _ _ _ _, by rw [putOut_bad (by rw [show putErr b e = 70 from by unfold putErr; rw [if_neg (by simp [hgood]), if_neg hrb]]; decide)]; exact Nat.le_refl _⟩, HM.below⟩)
    · have HF := HF.as (t := 34) (u := .bool false) rfl (by rw [hb34])
      have hrb : b.right = true ∧ b.behind e = true := by simpa using hb34
      have hbr := hrb.1
      have hbb := hrb.2
      unfold Bs.right at hbr
      unfold Bs.behind at hbb
      simp only [decide_eq_true_eq] at hbr hbb
      refine cond_false HF rfl ?_
      refine wp_skip ?_
      refine wp_seq ?_
      refine from_start ?_
      refine from_pures HF 1 0 (j := 1) [(35, .pointer (some ⟨g3, 3, none⟩))] (by kernel_rfl) rfl ?_; clear HF; intro a HF
      refine from_yl (S := fun wS => Mem w wS _) HF HM (i := 1) rfl rfl (d := 36) rfl (by decide) (v := .int .u8 (e.kind : Int)) (Yl.load1 rfl rfl (by kernel_rfl) (fun _ h => h.cell (i := 1) rfl rfl)) ?_; clear HF; intro a HF
      refine from_op HF (i := 2) rfl rfl ?_
      refine e_slice HF HM (vs := [(0, .int .u8 (e.kind : Int))]) (cs := #[.int .u8 (e.kind : Int)]) rfl ei_u8 (by decide) rfl (by kernel_rfl) rfl (by decide) ?_
      clear HF HM; intro a w37 g37 HF HM
      refine from_pures HF 1 3 (j := 4) [(8, .slice (some ⟨g37, 0, none⟩) 1 1)] (by kernel_rfl) rfl ?_; clear HF; intro a HF
      refine from_done rfl ?_
      replace HF := HF.sub (σ' := [(8, .slice (some ⟨g37, 0, none⟩) 1 1), (34, .bool false), (16, .bool false), (7, .int .i64 (e.check : Int)), (6, .slice A12 e.outVals.length c12), (5, .int .i64 0), (4, .slice none 0 0), (3, .pointer (some ⟨g3, 0, none⟩)), (2, .pointer (some ⟨g2, 0, none⟩))]) (by kernel_rfl)
      refine wp_seq ?_
      refine from_start ?_
      refine from_pures HF 2 0 (j := 2) [(39, .pointer (some ⟨g3, 0, none⟩)), (38, .slice (some ⟨g37, 0, none⟩) 1 1)] (by kernel_rfl) rfl ?_; clear HF; intro a HF
      refine from_yl (S := fun wS => Mem w wS _) HF HM (i := 2) rfl rfl (d := 40) rfl (by decide) (v := .int .i64 e.seq) (Yl.load1 rfl rfl (by kernel_rfl) (fun _ h => h.cell (i := 2) rfl rfl)) ?_; clear HF; intro a HF
      refine from_pures HF 1 3 (j := 4) [(41, .pointer (some ⟨g2, 0, none⟩))] (by kernel_rfl) rfl ?_; clear HF; intro a HF
      refine from_yl (S := fun wS => Mem w wS _) HF HM (i := 4) rfl rfl (d := 42) rfl (by decide) (v := .int .i64 b.seq) (Yl.load1 rfl rfl (by kernel_rfl) (fun _ h => h.cell (i := 3) rfl rfl)) ?_; clear HF; intro a HF
      refine from_pures HF 2 5 (j := 7) [(44, .int .u64 (IntKind.u64.wrap (IntKind.i64.wrap (e.seq - b.seq)))), (43, .int .i64 (IntKind.i64.wrap (e.seq - b.seq)))] (by kernel_rfl) rfl ?_; clear HF; intro a HF
      replace HF := HF.as (t := 44) (u := .int .u64 ((e.seq - b.seq).toNat : Int)) rfl (by rw [u64_sub (by omega) (by omega)])
      refine from_op HF (i := 7) rfl rfl ?_
      refine e_call HF (vs := [.int .u64 ((e.seq - b.seq).toNat : Int)]) rfl (by kernel_rfl) (by kernel_rfl) rfl (by decide) (write01_any ((e.seq - b.seq).toNat) _ (by omega)) ?_
      rintro _ w45 ⟨v, rfl, ho, hbw⟩
      obtain ⟨A45, c45, rfl, hc45⟩ := own_slice ho
      have hl45 := vbytes_length ((e.seq - b.seq).toNat)
      refine ⟨_, rfl, ?_⟩
      replace HM := HM.callRow hbw ho
      clear HF; intro a HF
      refine from_op HF (i := 8) rfl rfl ?_
      replace HM := HM.blkRow (i := 1) (n := 1) (size := 1) rfl rfl (by decide)
      refine e_append HF HM (i := 1) rfl ei_u8 rfl rfl rfl (news := ((vbytes ((e.seq - b.seq).toNat)).map B8)) (HM.rd (i := 0) rfl) (one_B8 _) (by omega) (by omega) rfl (by decide) ?_
      clear HF HM; intro a w46 A46 c46 HF HM hc46
      refine from_pures HF 1 9 (j := 10) [(8, .slice A46 (1 + ((vbytes ((e.seq - b.seq).toNat)).length)) c46)] (by kernel_rfl) rfl ?_; clear HF; intro a HF
      refine from_done rfl ?_
      replace HF := HF.sub (σ' := [(8, .slice A46 (1 + ((vbytes ((e.seq - b.seq).toNat)).length)) c46), (34, .bool false), (16, .bool false), (7, .int .i64 (e.check : Int)), (6, .slice A12 e.outVals.length c12), (5, .int .i64 0), (4, .slice none 0 0), (3, .pointer (some ⟨g3, 0, none⟩)), (2, .pointer (some ⟨g2, 0, none⟩))]) (by kernel_rfl)
      replace HM := HM.picks (fs' := [.row (.slice A46 (1 + ((vbytes ((e.seq - b.seq).toNat)).length)) c46) (1 + ((vbytes ((e.seq - b.seq).toNat)).length)) (((#[.int .u8 (e.kind : Int)]).toList) ++ ((vbytes ((e.seq - b.seq).toNat)).map B8)) 5 1, .row (.slice A12 e.outVals.length c12) e.outVals.length (e.outVals.map U64) 35 1, .blk g3 e.cells 64, .blk g2 b.cells 63]) [1, 2, 3, 4] (by decide) rfl
      refine wp_seq ?_
      refine from_start ?_
      refine from_pures HF 2 0 (j := 2) [(48, .pointer (some ⟨g3, 1, none⟩)), (47, .slice A46 (1 + ((vbytes ((e.seq - b.seq).toNat)).length)) c46)] (by kernel_rfl) rfl ?_; clear HF; intro a HF
      refine from_yl (S := fun wS => Mem w wS _) HF HM (i := 2) rfl rfl (d := 49) rfl (by decide) (v := .int .i64 e.time) (Yl.load1 rfl rfl (by kernel_rfl) (fun _ h => h.cell (i := 2) rfl rfl)) ?_; clear HF; intro a HF
      refine from_pures HF 1 3 (j := 4) [(50, .pointer (some ⟨g2, 1, none⟩))] (by kernel_rfl) rfl ?_; clear HF; intro a HF
      refine from_yl (S := fun wS => Mem w wS _) HF HM (i := 4) rfl rfl (d := 51) rfl (by decide) (v := .int .i64 b.time) (Yl.load1 rfl rfl (by kernel_rfl) (fun _ h => h.cell (i := 3) rfl rfl)) ?_; clear HF; intro a HF
      refine from_pures HF 2 5 (j := 7) [(53, .int .u64 (IntKind.u64.wrap (IntKind.i64.wrap (e.time - b.time)))), (52, .int .i64 (IntKind.i64.wrap (e.time - b.time)))] (by kernel_rfl) rfl ?_; clear HF; intro a HF
      replace HF := HF.as (t := 53) (u := .int .u64 ((e.time - b.time).toNat : Int)) rfl (by rw [u64_sub (by omega) (by omega)])
      refine from_op HF (i := 7) rfl rfl ?_
      refine e_call HF (vs := [.int .u64 ((e.time - b.time).toNat : Int)]) rfl (by kernel_rfl) (by kernel_rfl) rfl (by decide) (write01_any ((e.time - b.time).toNat) _ (by omega)) ?_
      rintro _ w54 ⟨v, rfl, ho, hbw⟩
      obtain ⟨A54, c54, rfl, hc54⟩ := own_slice ho
      have hl54 := vbytes_length ((e.time - b.time).toNat)
      refine ⟨_, rfl, ?_⟩
      replace HM := HM.callRow hbw ho
      clear HF; intro a HF
      refine from_op HF (i := 8) rfl rfl ?_
      refine e_append HF HM (i := 1) rfl ei_u8 rfl rfl rfl (news := ((vbytes ((e.time - b.time).toNat)).map B8)) (HM.rd (i := 0) rfl) (one_B8 _) (by omega) (by omega) rfl (by decide) ?_
      clear HF HM; intro a w55 A55 c55 HF HM hc55
      refine from_pures HF 1 9 (j := 10) [(8, .slice A55 ((1 + ((vbytes ((e.seq - b.seq).toNat)).length)) + ((vbytes ((e.time - b.time).toNat)).length)) c55)] (by kernel_rfl) rfl ?_; clear HF; intro a HF
      refine from_done rfl ?_
      replace HF := HF.sub (σ' := [(8, .slice A55 ((1 + ((vbytes ((e.seq - b.seq).toNat)).length)) + ((vbytes ((e.time - b.time).toNat)).length)) c55), (34, .bool false), (16, .bool false), (7, .int .i64 (e.check : Int)), (6, .slice A12 e.outVals.length c12), (5, .int .i64 0), (4, .slice none 0 0), (3, .pointer (some ⟨g3, 0, none⟩)), (2, .pointer (some ⟨g2, 0, none⟩))]) (by kernel_rfl)
      replace HM := HM.picks (fs' := [.row (.slice A55 ((1 + ((vbytes ((e.seq - b.seq).toNat)).length)) + ((vbytes ((e.time - b.time).toNat)).length)) c55) ((1 + ((vbytes ((e.seq - b.seq).toNat)).length)) + ((vbytes ((e.time - b.time).toNat)).length)) ((((#[.int .u8 (e.kind : Int)]).toList) ++ ((vbytes ((e.seq - b.seq).toNat)).map B8)) ++ ((vbytes ((e.time - b.time).toNat)).map B8)) 5 1, .row (.slice A12 e.outVals.length c12) e.outVals.length (e.outVals.map U64) 35 1, .blk g3 e.cells 64, .blk g2 b.cells 63]) [1, 2, 3, 4] (by decide) rfl
      have hn55 : (1 + ((vbytes ((e.seq - b.seq).toNat)).length)) + ((vbytes ((e.time - b.time).toNat)).length) = (putUp b e 0).length := by rw [putUp_zero]; simp; try omega
      rw [hn55] at HM hc55
      rw [show (((#[.int .u8 (e.kind : Int)]).toList) ++ ((vbytes ((e.seq - b.seq).toNat)).map B8)) ++ ((vbytes ((e.time - b.time).toNat)).map B8) = (putUp b e 0).map B8 from by simp [putUp_zero, B8]] at HM
      replace HF := HF.as (t := 8) (u := .slice A55 ((putUp b e 0).length) c55) rfl (by rw [hn55])
      refine wp_seq ?_
      refine wp_seq ?_
      refine from_start ?_
      refine from_pures HF 1 0 (j := 1) [(9, .int .i64 0)] (by kernel_rfl) rfl ?_; clear HF; intro a HF
      refine from_done rfl ?_
      replace HF := HF.sub (σ' := [(9, .int .i64 0), (8, .slice A55 ((putUp b e 0).length) c55), (34, .bool false), (16, .bool false), (7, .int .i64 (e.check : Int)), (6, .slice A12 e.outVals.length c12), (5, .int .i64 0), (4, .slice none 0 0), (3, .pointer (some ⟨g3, 0, none⟩)), (2, .pointer (some ⟨g2, 0, none⟩))]) (by kernel_rfl)
      refine wp_block ?_
      refine loop_nat (fun mS aS wS => ∃ (k : Nat) (Ak : Option Addr) (ck : Nat), (k ≤ e.outVals.length) ∧ ((putUp b e k).length ≤ ck) ∧ mS = e.outVals.length - k ∧ Fr aS 70 [] [(9, .int .i64 (k : Int)), (8, .slice Ak ((putUp b e k).length) ck), (34, .bool false), (16, .bool false), (7, .int .i64 (e.check : Int)), (6, .slice A12 e.outVals.length c12), (5, .int .i64 0), (4, .slice none 0 0), (3, .pointer (some ⟨g3, 0, none⟩)), (2, .pointer (some ⟨g2, 0, none⟩))] ∧ Mem w wS [.row (.slice Ak ((putUp b e k).length) ck) ((putUp b e k).length) ((putUp b e k).map B8) 5 1, .row (.slice A12 e.outVals.length c12) e.outVals.length (e.outVals.map U64) 35 1, .blk g3 e.cells 64, .blk g2 b.cells 63]) (m := e.outVals.length - 0) ⟨0, A55, c55, Nat.zero_le _, hc55, rfl, HF.sub (by kernel_rfl), HM.picks [0, 1, 2, 3] (by decide) rfl⟩ ?_
      clear HF HM; rintro mS a w_ ⟨k, Ak, ck, hk, hck, rfl, HF, HM⟩
      refine wp_seq ?_
      refine wp_seq ?_
      refine from_start ?_
      refine from_pures HF 2 0 (j := 2) [(57, .slice A12 e.outVals.length c12), (56, .int .i64 (k : Int))] (by kernel_rfl) rfl ?_; clear HF; intro a HF
      refine from_yl (S := fun wS => Mem w wS _) HF HM (i := 2) rfl rfl (d := 58) rfl (by decide) (v := .int .i64 ((e.outVals.length : Nat) : Int)) (Yl.len rfl rfl (by kernel_rfl)) ?_; clear HF; intro a HF
      refine from_pures HF 1 3 (j := 4) [(59, .bool (decide (((k : Int) : Int) < (((e.outVals.length : Nat) : Int) : Int))))] (by kernel_rfl) rfl ?_; clear HF; intro a HF
      refine from_done rfl ?_
      replace HF := HF.sub (σ' := [(59, .bool (decide (((k : Int) : Int) < (((e.outVals.length : Nat) : Int) : Int)))), (9, .int .i64 (k : Int)), (8, .slice Ak ((putUp b e k).length) ck), (34, .bool false), (16, .bool false), (7, .int .i64 (e.check : Int)), (6, .slice A12 e.outVals.length c12), (5, .int .i64 0), (4, .slice none 0 0), (3, .pointer (some ⟨g3, 0, none⟩)), (2, .pointer (some ⟨g2, 0, none⟩))]) (by kernel_rfl)
      rcases Bool.eq_false_or_eq_true (decide (((k : Int) : Int) < (((e.outVals.length : Nat) : Int) : Int))) with hb59 | hb59
      · have HF := HF.as (t := 59) (u := .bool true) rfl (by rw [hb59])
        have hk59 : k < e.outVals.length := by simp only [decide_eq_true_eq] at hb59; omega
        obtain ⟨x, hx⟩ : ∃ x, e.vals[k]? = some x := ⟨_, List.getElem?_eq_getElem (by rw [← hov]; exact hk59)⟩
        have hpl := putUp_len b e k
        refine cond_true HF rfl ?_
        refine wp_skip ?_
        refine wp_seq ?_
        refine wp_block ?_
        refine from_start ?_
        refine from_pures HF 3 0 (j := 3) [(64, .int .i64 (k : Int)), (63, .slice A12 e.outVals.length c12), (62, .slice Ak ((putUp b e k).length) ck)] (by kernel_rfl) rfl ?_; clear HF; intro a HF
        obtain ⟨gA12, rfl⟩ := own_some (HM.own (i := 1) rfl) (Nat.lt_of_le_of_lt (Nat.zero_le _) (show k < e.outVals.length from hk59))
        refine from_yl (S := fun wS => Mem w wS _) HF HM (i := 3) rfl rfl (d := 65) rfl (by decide) (v := .pointer (some ⟨gA12, k * 1, none⟩)) ((Yl.indexAddr (ad := ⟨gA12, 0, none⟩) (y := k) (sz := 1) rfl rfl rfl (hk59) (by kernel_rfl)).as (by rw [Addr.add_mid, Nat.zero_add])) ?_; clear HF; intro a HF
        refine from_yl (S := fun wS => Mem w wS _) HF HM (i := 4) rfl rfl (d := 66) rfl (by decide) (v := .int .u64 (x : Int)) (Yl.load1 rfl rfl (by kernel_rfl) (fun _ h => h.rowOne (i := 1) rfl (k := k) (map_at (F := U64) (k := k) (x := x) (by rw [hov]; exact hx)))) ?_; clear HF; intro a HF
        refine from_op HF (i := 5) rfl rfl ?_
        refine e_call HF (vs := [.int .u64 (x : Int)]) rfl (by kernel_rfl) (by kernel_rfl) rfl (by decide) (write01_any x _ (hx64 _ (List.mem_of_getElem? hx))) ?_
        rintro _ w67 ⟨v, rfl, ho, hbw⟩
        obtain ⟨A67, c67, rfl, hc67⟩ := own_slice ho
        have hl67 := vbytes_length x
        refine ⟨_, rfl, ?_⟩
        replace HM := HM.callRow hbw ho
        clear HF; intro a HF
        refine from_op HF (i := 6) rfl rfl ?_
        refine e_append HF HM (i := 1) rfl ei_u8 rfl rfl rfl (news := ((vbytes x).map B8)) (HM.rd (i := 0) rfl) (one_B8 _) (by omega) (by omega) rfl (by decide) ?_
        clear HF HM; intro a w68 A68 c68 HF HM hc68
        refine from_pures HF 1 7 (j := 8) [(8, .slice A68 (((putUp b e k).length) + ((vbytes x).length)) c68)] (by kernel_rfl) rfl ?_; clear HF; intro a HF
        refine from_done rfl ?_
        replace HF := HF.sub (σ' := [(8, .slice A68 (((putUp b e k).length) + ((vbytes x).length)) c68), (59, .bool true), (9, .int .i64 (k : Int)), (34, .bool false), (16, .bool false), (7, .int .i64 (e.check : Int)), (6, .slice (some ⟨gA12, 0, none⟩) e.outVals.length c12), (5, .int .i64 0), (4, .slice none 0 0), (3, .pointer (some ⟨g3, 0, none⟩)), (2, .pointer (some ⟨g2, 0, none⟩))]) (by kernel_rfl)
        replace HM := HM.picks (fs' := [.row (.slice A68 (((putUp b e k).length) + ((vbytes x).length)) c68) (((putUp b e k).length) + ((vbytes x).length)) (((putUp b e k).map B8) ++ ((vbytes x).map B8)) 5 1, .row (.slice (some ⟨gA12, 0, none⟩) e.outVals.length c12) e.outVals.length (e.outVals.map U64) 35 1, .blk g3 e.cells 64, .blk g2 b.cells 63]) [1, 2, 3, 4] (by decide) rfl
        have hn68 : ((putUp b e k).length) + ((vbytes x).length) = (putUp b e (k + 1)).length := by rw [putUp_succ hx]; simp
        rw [hn68] at HM hc68
        rw [show ((putUp b e k).map B8) ++ ((vbytes x).map B8) = (putUp b e (k + 1)).map B8 from by rw [putUp_succ hx, List.map_append]] at HM
        replace HF := HF.as (t := 8) (u := .slice A68 ((putUp b e (k + 1)).length) c68) rfl (by rw [hn68])
        refine from_start ?_
        refine from_pures HF 2 0 (j := 2) [(61, .int .i64 (IntKind.i64.wrap ((k : Int) + 1))), (60, .int .i64 (k : Int))] (by kernel_rfl) rfl ?_; clear HF; intro a HF
        replace HF := HF.as (t := 61) (u := .int .i64 ((k + 1 : Nat) : Int)) rfl (by rw [IntWalk.i64_in _ (by omega)]; simp)
        refine from_pures HF 1 2 (j := 3) [(9, .int .i64 ((k + 1 : Nat) : Int))] (by kernel_rfl) rfl ?_; clear HF; intro a HF
        refine from_done rfl ?_
        replace HF := HF.sub (σ' := [(9, .int .i64 ((k + 1 : Nat) : Int)), (8, .slice A68 ((putUp b e (k + 1)).length) c68), (59, .bool true), (34, .bool false), (16, .bool false), (7, .int .i64 (e.check : Int)), (6, .slice (some ⟨gA12, 0, none⟩) e.outVals.length c12), (5, .int .i64 0), (4, .slice none 0 0), (3, .pointer (some ⟨g3, 0, none⟩)), (2, .pointer (some ⟨g2, 0, none⟩))]) (by kernel_rfl)
        exact ⟨_, (by omega), k + 1, A68, c68, hk59, hc68, rfl, HF.sub (by kernel_rfl), HM.picks [0, 1, 2, 3] (by decide) rfl⟩
      · have HF := HF.as (t := 59) (u := .bool false) rfl (by rw [hb59])
        obtain rfl : k = e.vals.length := by rw [hov] at hb59 hk; simp only [decide_eq_false_iff_not] at hb59; omega
        refine cond_false HF rfl ?_
        refine wp_exit ?_
        refine wp_seq ?_
        refine from_start ?_
        refine from_pures HF 3 0 (j := 3) [(5, .int .i64 0), (4, .slice Ak ((putUp b e e.vals.length).length) ck), (69, .slice Ak ((putUp b e e.vals.length).length) ck)] (by kernel_rfl) rfl ?_; clear HF; intro a HF
        refine from_done rfl ?_
        replace HF := HF.sub (σ' := [(5, .int .i64 0), (4, .slice Ak ((putUp b e e.vals.length).length) ck), (59, .bool false), (9, .int .i64 (e.vals.length : Int)), (8, .slice Ak ((putUp b e e.vals.length).length) ck), (34, .bool false), (16, .bool false), (7, .int .i64 (e.check : Int)), (6, .slice A12 e.outVals.length c12), (3, .pointer (some ⟨g3, 0, none⟩)), (2, .pointer (some ⟨g2, 0, none⟩))]) (by kernel_rfl)
        refine wp_ret ?_
        exact ret2 rfl HF (.tmp HF rfl) (.tmp HF rfl) (⟨⟨Ak, ck, by rw [putOut_good hgood hrb, putErr_good hgood hrb, ← putUp_all]; rfl, by rw [putOut_good hgood hrb, ← putUp_all]; exact HM.own (i := 0) rfl, by rw [putOut_good hgood hrb, ← putUp_all]; exact hck⟩, HM.below⟩)
end Go.Proofs.YtpekelggcmgnnaaDoor

/- quantumref07.Row is what codec.Row is. -/
set_option linter.all false
namespace Go.Proofs.YtpekelggcmgnnaaDoor
open Go.RowKit
set_option maxRecDepth 100000 in
set_option maxHeartbeats 4000000 in
theorem row07_any (A : Option Addr) (n c : Nat) (l : List Ev) (hok : ∀ e ∈ l, e.Ok) (w : World) (hr : Rd w w.heap.size 11 A n (l.flatMap evL)) (hn : n ≤ 140737488355328) (hln : l.length = n) :
    Calls Tryd.prog 27 #[.slice A n c] w (RowPost w (rowR l)) := by
  refine calls_enter (vs := [.slice A n c]) Tryd.func27 rfl rfl (by kernel_rfl) (σ0 := [(0, .slice A n c)]) rfl ?_
  intro a HF
  have HM := Mem.start w
  refine wp_seq ?_
  refine from_start ?_
  refine from_pures HF 2 0 (j := 2) [(3, .int .i64 0), (2, .int .i64 0)] (by kernel_rfl) rfl ?_; clear HF; intro a HF
  refine from_done rfl ?_
  refine wp_seq ?_
  refine wp_seq ?_
  refine from_start ?_
  refine from_pures HF 1 0 (j := 1) [(4, .int .i64 0)] (by kernel_rfl) rfl ?_; clear HF; intro a HF
  refine from_done rfl ?_
  refine wp_block ?_
  refine loop_nat (fun mS aS wS => ∃ (k : Nat), (k ≤ n) ∧ (rowR l = rowGo (prevOf l k) k (l.drop k)) ∧ mS = n - k ∧ Fr aS 66 [] [(4, .int .i64 (k : Int)), (3, .int .i64 0), (2, .int .i64 0), (0, .slice A n c)] ∧ Mem w wS []) (m := n - 0) ⟨0, Nat.zero_le _, rfl, rfl, HF.sub (by kernel_rfl), HM.picks [] (by decide) rfl⟩ ?_
  clear HF HM; rintro mS a w_ ⟨k, hk, hj, rfl, HF, HM⟩
  refine wp_seq ?_
  refine wp_seq ?_
  refine from_start ?_
  refine from_pures HF 2 0 (j := 2) [(7, .slice A n c), (6, .int .i64 (k : Int))] (by kernel_rfl) rfl ?_; clear HF; intro a HF
  refine from_yl (S := fun wS => Mem w wS _) HF HM (i := 2) rfl rfl (d := 8) rfl (by decide) (v := .int .i64 ((n : Nat) : Int)) (Yl.len rfl rfl (by kernel_rfl)) ?_; clear HF; intro a HF
  refine from_pures HF 1 3 (j := 4) [(9, .bool (decide (((k : Int) : Int) < (((n : Nat) : Int) : Int))))] (by kernel_rfl) rfl ?_; clear HF; intro a HF
  refine from_done rfl ?_
  replace HF := HF.sub (σ' := [(9, .bool (decide (((k : Int) : Int) < (((n : Nat) : Int) : Int)))), (4, .int .i64 (k : Int)), (3, .int .i64 0), (2, .int .i64 0), (0, .slice A n c)]) (by kernel_rfl)
  rcases Bool.eq_false_or_eq_true (decide (((k : Int) : Int) < (((n : Nat) : Int) : Int))) with hb9 | hb9
  · have HF := HF.as (t := 9) (u := .bool true) rfl (by rw [hb9])
    have hk9 : k < n := by simp at hb9; omega
    obtain ⟨e, hke⟩ : ∃ e, l[k]? = some e := ⟨_, List.getElem?_eq_getElem (by omega)⟩
    have hgo := rowGo_next hke
    refine cond_true HF rfl ?_
    refine wp_skip ?_
    refine wp_seq ?_
    refine wp_block ?_
    refine wp_seq ?_
    refine wp_seq ?_
    refine from_start ?_
    refine from_pures HF 2 0 (j := 2) [(13, .int .i64 (k : Int)), (12, .slice A n c)] (by kernel_rfl) rfl ?_; clear HF; intro a HF
    obtain ⟨gA, oA, rfl, _⟩ := hr.some_at (Nat.lt_of_le_of_lt (Nat.zero_le _) (show k < n from hk9)) (by decide)
    refine from_yl (S := fun wS => Mem w wS _) HF HM (i := 2) rfl rfl (d := 14) rfl (by decide) (v := .pointer (some ⟨gA, oA + k * 11, none⟩)) ((Yl.indexAddr (ad := ⟨gA, oA, none⟩) (y := k) (sz := 11) rfl rfl rfl (hk9) (by kernel_rfl)).as (by rw [Addr.add_mid])) ?_; clear HF; intro a HF
    refine from_yl (S := fun wS => Mem w wS _) HF HM (i := 3) rfl rfl (d := 15) rfl (by decide) (v := .agg e.cells) (Yl.loadS rfl rfl ⟨(by kernel_rfl), (by kernel_rfl)⟩ rfl (fun _ h => (h.old hr).structAt evL_len (hke))) ?_; clear HF; intro a HF
    refine from_op HF (i := 4) rfl rfl ?_
    refine e_call HF (vs := [.agg e.cells]) rfl (by kernel_rfl) (by kernel_rfl) rfl (by decide) (check06_any e (hok e (List.mem_of_getElem? hke)) _) ?_
    rintro _ w16 ⟨rfl, hbw⟩
    refine ⟨_, rfl, ?_⟩
    replace HM := HM.call hbw
    clear HF; intro a HF
    refine from_pures HF 1 5 (j := 6) [(5, .int .i64 (e.check : Int))] (by kernel_rfl) rfl ?_; clear HF; intro a HF
    refine from_done rfl ?_
    replace HF := HF.sub (σ' := [(5, .int .i64 (e.check : Int)), (9, .bool true), (4, .int .i64 (k : Int)), (3, .int .i64 0), (2, .int .i64 0), (0, .slice (some ⟨gA, oA, none⟩) n c)]) (by kernel_rfl)
    refine wp_seq ?_
    refine from_start ?_
    refine from_pures HF 2 0 (j := 2) [(18, .bool (((e.check : Int) : Int) != (0 : Int))), (17, .int .i64 (e.check : Int))] (by kernel_rfl) rfl ?_; clear HF; intro a HF
    refine from_done rfl ?_
    replace HF := HF.sub (σ' := [(18, .bool (((e.check : Int) : Int) != (0 : Int))), (5, .int .i64 (e.check : Int)), (9, .bool true), (4, .int .i64 (k : Int)), (3, .int .i64 0), (2, .int .i64 0), (0, .slice (some ⟨gA, oA, none⟩) n c)]) (by kernel_rfl)
    rcases Bool.eq_false_or_eq_true (((e.check : Int) : Int) != (0 : Int)) with hb18 | hb18
    · have HF := HF.as (t := 18) (u := .bool true) rfl (by rw [hb18])
      have hcb : e.check ≠ 0 := by rw [bne_iff_ne] at hb18; omega
      rw [if_pos hcb] at hgo
      refine cond_true HF rfl ?_
      refine wp_seq ?_
      refine from_start ?_
      refine from_pures HF 4 0 (j := 4) [(3, .int .i64 (e.check : Int)), (2, .int .i64 (k : Int)), (20, .int .i64 (e.check : Int)), (19, .int .i64 (k : Int))] (by kernel_rfl) rfl ?_; clear HF; intro a HF
      refine from_done rfl ?_
      replace HF := HF.sub (σ' := [(3, .int .i64 (e.check : Int)), (2, .int .i64 (k : Int)), (18, .bool true), (5, .int .i64 (e.check : Int)), (9, .bool true), (4, .int .i64 (k : Int)), (0, .slice (some ⟨gA, oA, none⟩) n c)]) (by kernel_rfl)
      refine wp_ret ?_
      exact ret2 rfl HF (.tmp HF rfl) (.tmp HF rfl) (⟨by rw [hj, hgo]; (try rfl), HM.below⟩)
    · have HF := HF.as (t := 18) (u := .bool false) rfl (by rw [hb18])
      have hcg : ¬ e.check ≠ 0 := by rw [bne_eq_false_iff_eq] at hb18; omega
      rw [if_neg hcg] at hgo
      refine cond_false HF rfl ?_
      refine wp_skip ?_
      refine cut_seq (fun aS wS => Fr aS 66 [] [(64, .bool (!(prevOf l k).all (fun q => e.after q))), (18, .bool false), (5, .int .i64 (e.check : Int)), (9, .bool true), (4, .int .i64 (k : Int)), (3, .int .i64 0), (2, .int .i64 0), (0, .slice (some ⟨gA, oA, none⟩) n c)] ∧ Mem w wS []) ?_ ?_
      ·
        refine any_start (by kernel_rfl) (fun wS => Mem w wS []) [] ?_
        replace HM := HM.drew
        have HS := HM.picks (fs' := []) [] (by decide) rfl
        refine any_pures HF (fun _ => HS) (fun _ _ d _ _ h => by cases d <;> exact h) [0, 1, 2] #[true, true, true, false, false, false, false, false, false, false, false, false, false, false, false, false, false, false, false, false, false, false, false, false, false, false, false, false, false, false, false, false, false, false, false, false, false, false, false, false, false, false, false, false] [(23, .bool (decide (((k : Int) : Int) > (0 : Int)))), (22, .bool (decide (((k : Int) : Int) > (0 : Int)))), (21, .int .i64 (k : Int))] (by kernel_rfl) ?_; clear HF; intro a HF
        rcases Bool.eq_false_or_eq_true (decide (((k : Int) : Int) > (0 : Int))) with hb23 | hb23
        · have HF := HF.as (t := 23) (u := .bool true) rfl (by rw [hb23])
          have hk0 : 0 < k := by simp at hb23; omega
          obtain ⟨q, hq⟩ : ∃ q, l[k - 1]? = some q := ⟨_, List.getElem?_eq_getElem (by omega)⟩
          have hpv : prevOf l k = some q := by rw [← hq, show k = (k - 1) + 1 by omega]; rfl
          refine any_pures HF (fun _ => HS) (fun _ _ d _ _ h => by cases d <;> exact h) [3, 4, 8, 9] #[true, true, true, true, true, false, false, false, true, true, false, false, false, false, false, false, false, false, false, false, false, false, false, false, false, false, false, false, false, false, false, false, false, false, false, false, false, false, false, false, false, false, false, false] [(30, .int .i64 (k : Int)), (29, .slice (some ⟨gA, oA, none⟩) n c), (25, .int .i64 (k : Int)), (24, .slice (some ⟨gA, oA, none⟩) n c)] (by kernel_rfl) ?_; clear HF; intro a HF
          refine any_yl HF HS (i := 5) rfl rfl (d := 26) rfl (by decide) (by kernel_rfl) (fun _ _ _ h => h) (v := .pointer (some ⟨gA, oA + k * 11, none⟩)) ((Yl.indexAddr (ad := ⟨gA, oA, none⟩) (y := k) (sz := 11) rfl rfl rfl (hk9) (by kernel_rfl)).as (by rw [Addr.add_mid])) ?_; clear HF; intro a HF
          refine any_pures HF (fun _ => HS) (fun _ _ d _ _ h => by cases d <;> exact h) [6] #[true, true, true, true, true, true, true, false, true, true, false, false, false, false, false, false, false, false, false, false, false, false, false, false, false, false, false, false, false, false, false, false, false, false, false, false, false, false, false, false, false, false, false, false] [(27, .pointer (some ⟨gA, oA + k * 11 + 2, none⟩))] (by kernel_rfl) ?_; clear HF; intro a HF
          refine any_yl HF HS (i := 7) rfl rfl (d := 28) rfl (by decide) (by kernel_rfl) (fun _ _ _ h => h) (v := .int .u8 (e.cpu : Int)) (Yl.load1 rfl rfl (by kernel_rfl) (fun _ h => (h.old hr).partAt evL_len (k := k) (j := 2) (x := e) (hke) rfl)) ?_; clear HF; intro a HF
          refine any_pure HF (fun _ => HS) (i := 10) rfl rfl (d := 31) rfl (by decide) (by kernel_rfl) (fun _ _ _ h => h) (v := .int .i64 (IntKind.i64.wrap ((k : Int) - 1))) (fun _ => Yl.pure (by kernel_rfl)) ?_; clear HF; intro a HF
          replace HF := HF.as (t := 31) (u := .int .i64 ((k - 1 : Nat) : Int)) rfl (by rw [IntWalk.i64_in _ (by omega)]; congr 1; omega)
          refine any_yl HF HS (i := 11) rfl rfl (d := 32) rfl (by decide) (by kernel_rfl) (fun _ _ _ h => h) (v := .pointer (some ⟨gA, oA + (k - 1) * 11, none⟩)) ((Yl.indexAddr (ad := ⟨gA, oA, none⟩) (y := (k - 1)) (sz := 11) rfl rfl rfl (by omega) (by kernel_rfl)).as (by rw [Addr.add_mid])) ?_; clear HF; intro a HF
          refine any_pures HF (fun _ => HS) (fun _ _ d _ _ h => by cases d <;> exact h) [12] #[true, true, true, true, true, true, true, true, true, true, true, true, true, false, false, false, false, false, false, false, false, false, false, false, false, false, false, false, false, false, false, false, false, false, false, false, false, false, false, false, false, false, false, false] [(33, .pointer (some ⟨gA, oA + (k - 1) * 11 + 2, none⟩))] (by kernel_rfl) ?_; clear HF; intro a HF
          refine any_yl HF HS (i := 13) rfl rfl (d := 34) rfl (by decide) (by kernel_rfl) (fun _ _ _ h => h) (v := .int .u8 (q.cpu : Int)) (Yl.load1 rfl rfl (by kernel_rfl) (fun _ h => (h.old hr).partAt evL_len (k := (k - 1)) (j := 2) (x := q) (hq) rfl)) ?_; clear HF; intro a HF
          refine any_pures HF (fun _ => HS) (fun _ _ d _ _ h => by cases d <;> exact h) [14, 15] #[true, true, true, true, true, true, true, true, true, true, true, true, true, true, true, true, false, false, false, false, false, false, false, false, false, false, false, false, false, false, false, false, false, false, false, false, false, false, false, false, false, false, false, false] [(36, .bool (((e.cpu : Int) : Int) != ((q.cpu : Int) : Int))), (35, .bool (((e.cpu : Int) : Int) != ((q.cpu : Int) : Int)))] (by kernel_rfl) ?_; clear HF; intro a HF
          rcases Bool.eq_false_or_eq_true (((e.cpu : Int) : Int) != ((q.cpu : Int) : Int)) with hb36 | hb36
          · have HF := HF.as (t := 36) (u := .bool true) rfl (by rw [hb36])
            refine any_pures HF (fun _ => HS) (fun _ _ d _ _ h => by cases d <;> exact h) [16, 17, 18, 19, 20, 21, 22, 23, 24, 25, 26, 27, 28, 29, 30, 31, 32, 33, 34, 35, 36, 37, 38, 39, 40, 41, 42, 43] #[true, true, true, true, true, true, true, true, true, true, true, true, true, true, true, true, true, true, true, true, true, true, true, true, true, true, true, true, true, true, true, true, true, true, true, true, true, true, true, true, true, true, true, true] [(64, .bool true), (63, .bool true), (62, undef), (61, undef), (60, undef), (59, undef), (58, undef), (57, undef), (56, undef), (55, undef), (54, undef), (53, undef), (52, undef), (51, undef), (50, .bool true), (49, .bool true), (48, undef), (47, undef), (46, undef), (45, undef), (44, undef), (43, undef), (42, undef), (41, undef), (40, undef), (39, undef), (38, undef), (37, undef)] (by kernel_rfl) ?_; clear HF; intro a HF
            refine any_done (by kernel_rfl) ?_
            replace HF := HF.sub (σ' := [(64, .bool true), (18, .bool false), (5, .int .i64 (e.check : Int)), (9, .bool true), (4, .int .i64 (k : Int)), (3, .int .i64 0), (2, .int .i64 0), (0, .slice (some ⟨gA, oA, none⟩) n c)]) (by kernel_rfl)
            have HF := HF.as (t := 64) (u := .bool (!(prevOf l k).all (fun q => e.after q))) rfl (congrArg Value.bool (by rw [hpv]; (try simp at hb9); (try simp at hb18); (try simp at hb23); (try simp at hb36); rw [Bool.eq_iff_iff]; simp [Ev.after]; try omega))
            exact ⟨HF.sub (by kernel_rfl), HM.picks [] (by decide) rfl⟩
          · have HF := HF.as (t := 36) (u := .bool false) rfl (by rw [hb36])
            refine any_pures HF (fun _ => HS) (fun _ _ d _ _ h => by cases d <;> exact h) [16, 17, 21, 22] #[true, true, true, true, true, true, true, true, true, true, true, true, true, true, true, true, true, true, false, false, false, true, true, false, false, false, false, false, false, false, false, false, false, false, false, false, false, false, false, false, false, false, false, false] [(43, .int .i64 (k : Int)), (42, .slice (some ⟨gA, oA, none⟩) n c), (38, .int .i64 (k : Int)), (37, .slice (some ⟨gA, oA, none⟩) n c)] (by kernel_rfl) ?_; clear HF; intro a HF
            refine any_yl HF HS (i := 18) rfl rfl (d := 39) rfl (by decide) (by kernel_rfl) (fun _ _ _ h => h) (v := .pointer (some ⟨gA, oA + k * 11, none⟩)) ((Yl.indexAddr (ad := ⟨gA, oA, none⟩) (y := k) (sz := 11) rfl rfl rfl (hk9) (by kernel_rfl)).as (by rw [Addr.add_mid])) ?_; clear HF; intro a HF
            refine any_pures HF (fun _ => HS) (fun _ _ d _ _ h => by cases d <;> exact h) [19] #[true, true, true, true, true, true, true, true, true, true, true, true, true, true, true, true, true, true, true, true, false, true, true, false, false, false, false, false, false, false, false, false, false, false, false, false, false, false, false, false, false, false, false, false] [(40, .pointer (some ⟨gA, oA + k * 11, none⟩))] (by kernel_rfl) ?_; clear HF; intro a HF
            refine any_yl HF HS (i := 20) rfl rfl (d := 41) rfl (by decide) (by kernel_rfl) (fun _ _ _ h => h) (v := .int .i64 e.seq) (Yl.load1 rfl rfl (by kernel_rfl) (fun _ h => (by have := (h.old hr).partAt evL_len (k := k) (j := 0) (x := e) (hke) rfl; simpa using this))) ?_; clear HF; intro a HF
            refine any_pure HF (fun _ => HS) (i := 23) rfl rfl (d := 44) rfl (by decide) (by kernel_rfl) (fun _ _ _ h => h) (v := .int .i64 (IntKind.i64.wrap ((k : Int) - 1))) (fun _ => Yl.pure (by kernel_rfl)) ?_; clear HF; intro a HF
            replace HF := HF.as (t := 44) (u := .int .i64 ((k - 1 : Nat) : Int)) rfl (by rw [IntWalk.i64_in _ (by omega)]; congr 1; omega)
            refine any_yl HF HS (i := 24) rfl rfl (d := 45) rfl (by decide) (by kernel_rfl) (fun _ _ _ h => h) (v := .pointer (some ⟨gA, oA + (k - 1) * 11, none⟩)) ((Yl.indexAddr (ad := ⟨gA, oA, none⟩) (y := (k - 1)) (sz := 11) rfl rfl rfl (by omega) (by kernel_rfl)).as (by rw [Addr.add_mid])) ?_; clear HF; intro a HF
            refine any_pures HF (fun _ => HS) (fun _ _ d _ _ h => by cases d <;> exact h) [25] #[true, true, true, true, true, true, true, true, true, true, true, true, true, true, true, true, true, true, true, true, true, true, true, true, true, true, false, false, false, false, false, false, false, false, false, false, false, false, false, false, false, false, false, false] [(46, .pointer (some ⟨gA, oA + (k - 1) * 11, none⟩))] (by kernel_rfl) ?_; clear HF; intro a HF
            refine any_yl HF HS (i := 26) rfl rfl (d := 47) rfl (by decide) (by kernel_rfl) (fun _ _ _ h => h) (v := .int .i64 q.seq) (Yl.load1 rfl rfl (by kernel_rfl) (fun _ h => (by have := (h.old hr).partAt evL_len (k := (k - 1)) (j := 0) (x := q) (hq) rfl; simpa using this))) ?_; clear HF; intro a HF
            refine any_pures HF (fun _ => HS) (fun _ _ d _ _ h => by cases d <;> exact h) [27, 28, 29] #[true, true, true, true, true, true, true, true, true, true, true, true, true, true, true, true, true, true, true, true, true, true, true, true, true, true, true, true, true, true, false, false, false, false, false, false, false, false, false, false, false, false, false, false] [(50, .bool (decide ((e.seq : Int) ≤ (q.seq : Int)))), (49, .bool (decide ((e.seq : Int) ≤ (q.seq : Int)))), (48, .bool (decide ((e.seq : Int) ≤ (q.seq : Int))))] (by kernel_rfl) ?_; clear HF; intro a HF
            rcases Bool.eq_false_or_eq_true (decide ((e.seq : Int) ≤ (q.seq : Int))) with hb50 | hb50
            · have HF := HF.as (t := 50) (u := .bool true) rfl (by rw [hb50])
              refine any_pures HF (fun _ => HS) (fun _ _ d _ _ h => by cases d <;> exact h) [30, 31, 32, 33, 34, 35, 36, 37, 38, 39, 40, 41, 42, 43] #[true, true, true, true, true, true, true, true, true, true, true, true, true, true, true, true, true, true, true, true, true, true, true, true, true, true, true, true, true, true, true, true, true, true, true, true, true, true, true, true, true, true, true, true] [(64, .bool true), (63, .bool true), (62, undef), (61, undef), (60, undef), (59, undef), (58, undef), (57, undef), (56, undef), (55, undef), (54, undef), (53, undef), (52, undef), (51, undef)] (by kernel_rfl) ?_; clear HF; intro a HF
              refine any_done (by kernel_rfl) ?_
              replace HF := HF.sub (σ' := [(64, .bool true), (18, .bool false), (5, .int .i64 (e.check : Int)), (9, .bool true), (4, .int .i64 (k : Int)), (3, .int .i64 0), (2, .int .i64 0), (0, .slice (some ⟨gA, oA, none⟩) n c)]) (by kernel_rfl)
              have HF := HF.as (t := 64) (u := .bool (!(prevOf l k).all (fun q => e.after q))) rfl (congrArg Value.bool (by rw [hpv]; (try simp at hb9); (try simp at hb18); (try simp at hb23); (try simp at hb36); (try simp at hb50); rw [Bool.eq_iff_iff]; simp [Ev.after]; try omega))
              exact ⟨HF.sub (by kernel_rfl), HM.picks [] (by decide) rfl⟩
            · have HF := HF.as (t := 50) (u := .bool false) rfl (by rw [hb50])
              refine any_pures HF (fun _ => HS) (fun _ _ d _ _ h => by cases d <;> exact h) [30, 31, 35, 36] #[true, true, true, true, true, true, true, true, true, true, true, true, true, true, true, true, true, true, true, true, true, true, true, true, true, true, true, true, true, true, true, true, false, false, false, true, true, false, false, false, false, false, false, false] [(57, .int .i64 (k : Int)), (56, .slice (some ⟨gA, oA, none⟩) n c), (52, .int .i64 (k : Int)), (51, .slice (some ⟨gA, oA, none⟩) n c)] (by kernel_rfl) ?_; clear HF; intro a HF
              refine any_yl HF HS (i := 32) rfl rfl (d := 53) rfl (by decide) (by kernel_rfl) (fun _ _ _ h => h) (v := .pointer (some ⟨gA, oA + k * 11, none⟩)) ((Yl.indexAddr (ad := ⟨gA, oA, none⟩) (y := k) (sz := 11) rfl rfl rfl (hk9) (by kernel_rfl)).as (by rw [Addr.add_mid])) ?_; clear HF; intro a HF
              refine any_pures HF (fun _ => HS) (fun _ _ d _ _ h => by cases d <;> exact h) [33] #[true, true, true, true, true, true, true, true, true, true, true, true, true, true, true, true, true, true, true, true, true, true, true, true, true, true, true, true, true, true, true, true, true, true, false, true, true, false, false, false, false, false, false, false] [(54, .pointer (some ⟨gA, oA + k * 11 + 1, none⟩))] (by kernel_rfl) ?_; clear HF; intro a HF
              refine any_yl HF HS (i := 34) rfl rfl (d := 55) rfl (by decide) (by kernel_rfl) (fun _ _ _ h => h) (v := .int .i64 e.time) (Yl.load1 rfl rfl (by kernel_rfl) (fun _ h => (h.old hr).partAt evL_len (k := k) (j := 1) (x := e) (hke) rfl)) ?_; clear HF; intro a HF
              refine any_pure HF (fun _ => HS) (i := 37) rfl rfl (d := 58) rfl (by decide) (by kernel_rfl) (fun _ _ _ h => h) (v := .int .i64 (IntKind.i64.wrap ((k : Int) - 1))) (fun _ => Yl.pure (by kernel_rfl)) ?_; clear HF; intro a HF
              replace HF := HF.as (t := 58) (u := .int .i64 ((k - 1 : Nat) : Int)) rfl (by rw [IntWalk.i64_in _ (by omega)]; congr 1; omega)
              refine any_yl HF HS (i := 38) rfl rfl (d := 59) rfl (by decide) (by kernel_rfl) (fun _ _ _ h => h) (v := .pointer (some ⟨gA, oA + (k - 1) * 11, none⟩)) ((Yl.indexAddr (ad := ⟨gA, oA, none⟩) (y := (k - 1)) (sz := 11) rfl rfl rfl (by omega) (by kernel_rfl)).as (by rw [Addr.add_mid])) ?_; clear HF; intro a HF
              refine any_pures HF (fun _ => HS) (fun _ _ d _ _ h => by cases d <;> exact h) [39] #[true, true, true, true, true, true, true, true, true, true, true, true, true, true, true, true, true, true, true, true, true, true, true, true, true, true, true, true, true, true, true, true, true, true, true, true, true, true, true, true, false, false, false, false] [(60, .pointer (some ⟨gA, oA + (k - 1) * 11 + 1, none⟩))] (by kernel_rfl) ?_; clear HF; intro a HF
              refine any_yl HF HS (i := 40) rfl rfl (d := 61) rfl (by decide) (by kernel_rfl) (fun _ _ _ h => h) (v := .int .i64 q.time) (Yl.load1 rfl rfl (by kernel_rfl) (fun _ h => (h.old hr).partAt evL_len (k := (k - 1)) (j := 1) (x := q) (hq) rfl)) ?_; clear HF; intro a HF
              refine any_pures HF (fun _ => HS) (fun _ _ d _ _ h => by cases d <;> exact h) [41, 42, 43] #[true, true, true, true, true, true, true, true, true, true, true, true, true, true, true, true, true, true, true, true, true, true, true, true, true, true, true, true, true, true, true, true, true, true, true, true, true, true, true, true, true, true, true, true] [(64, .bool (decide ((e.time : Int) < (q.time : Int)))), (63, .bool (decide ((e.time : Int) < (q.time : Int)))), (62, .bool (decide ((e.time : Int) < (q.time : Int))))] (by kernel_rfl) ?_; clear HF; intro a HF
              refine any_done (by kernel_rfl) ?_
              replace HF := HF.sub (σ' := [(64, .bool (decide ((e.time : Int) < (q.time : Int)))), (18, .bool false), (5, .int .i64 (e.check : Int)), (9, .bool true), (4, .int .i64 (k : Int)), (3, .int .i64 0), (2, .int .i64 0), (0, .slice (some ⟨gA, oA, none⟩) n c)]) (by kernel_rfl)
              have HF := HF.as (t := 64) (u := .bool (!(prevOf l k).all (fun q => e.after q))) rfl (congrArg Value.bool (by rw [hpv]; (try simp at hb9); (try simp at hb18); (try simp at hb23); (try simp at hb36); (try simp at hb50); rw [Bool.eq_iff_iff]; simp [Ev.after]; try omega))
              exact ⟨HF.sub (by kernel_rfl), HM.picks [] (by decide) rfl⟩
        · have HF := HF.as (t := 23) (u := .bool false) rfl (by rw [hb23])
          have hpv : prevOf l k = none := by rw [show k = 0 by simp at hb23; omega]; rfl
          refine any_pures HF (fun _ => HS) (fun _ _ d _ _ h => by cases d <;> exact h) [3, 4, 5, 6, 7, 8, 9, 10, 11, 12, 13, 14, 15, 16, 17, 18, 19, 20, 21, 22, 23, 24, 25, 26, 27, 28, 29, 30, 31, 32, 33, 34, 35, 36, 37, 38, 39, 40, 41, 42, 43] #[true, true, true, true, true, true, true, true, true, true, true, true, true, true, true, true, true, true, true, true, true, true, true, true, true, true, true, true, true, true, true, true, true, true, true, true, true, true, true, true, true, true, true, true] [(64, .bool false), (63, undef), (62, undef), (61, undef), (60, undef), (59, undef), (58, undef), (57, undef), (56, undef), (55, undef), (54, undef), (53, undef), (52, undef), (51, undef), (50, undef), (49, undef), (48, undef), (47, undef), (46, undef), (45, undef), (44, undef), (43, undef), (42, undef), (41, undef), (40, undef), (39, undef), (38, undef), (37, undef), (36, undef), (35, undef), (34, undef), (33, undef), (32, undef), (31, undef), (30, undef), (29, undef), (28, undef), (27, undef), (26, undef), (25, undef), (24, undef)] (by kernel_rfl) ?_; clear HF; intro a HF
          refine any_done (by kernel_rfl) ?_
          replace HF := HF.sub (σ' := [(64, .bool false), (18, .bool false), (5, .int .i64 (e.check : Int)), (9, .bool true), (4, .int .i64 (k : Int)), (3, .int .i64 0), (2, .int .i64 0), (0, .slice (some ⟨gA, oA, none⟩) n c)]) (by kernel_rfl)
          have HF := HF.as (t := 64) (u := .bool (!(prevOf l k).all (fun q => e.after q))) rfl (congrArg Value.bool (by rw [hpv]; (try simp at hb9); (try simp at hb18); (try simp at hb23); rw [Bool.eq_iff_iff]; simp [Ev.after]; try omega))
          exact ⟨HF.sub (by kernel_rfl), HM.picks [] (by decide) rfl⟩
      clear HF HM; rintro a w7 ⟨HF, HM⟩
      rcases Bool.eq_false_or_eq_true (!(prevOf l k).all (fun q => e.after q)) with hb64 | hb64
      · have HF := HF.as (t := 64) (u := .bool true) rfl (by rw [hb64])
        rw [if_pos (by simpa using hb64)] at hgo
        refine cond_true HF rfl ?_
        refine wp_seq ?_
        refine from_start ?_
        refine from_pures HF 3 0 (j := 3) [(3, .int .i64 71), (2, .int .i64 (k : Int)), (65, .int .i64 (k : Int))] (by kernel_rfl) rfl ?_; clear HF; intro a HF
        refine from_done rfl ?_
        replace HF := HF.sub (σ' := [(3, .int .i64 71), (2, .int .i64 (k : Int)), (64, .bool true), (18, .bool false), (5, .int .i64 (e.check : Int)), (9, .bool true), (4, .int .i64 (k : Int)), (0, .slice (some ⟨gA, oA, none⟩) n c)]) (by kernel_rfl)
        refine wp_ret ?_
        exact ret2 rfl HF (.tmp HF rfl) (.tmp HF rfl) (⟨by rw [hj, hgo]; (try rfl), HM.below⟩)
      · have HF := HF.as (t := 64) (u := .bool false) rfl (by rw [hb64])
        rw [if_neg (by simpa using hb64)] at hgo
        refine cond_false HF rfl ?_
        refine wp_skip ?_
        refine from_start ?_
        refine from_pures HF 2 0 (j := 2) [(11, .int .i64 (IntKind.i64.wrap ((k : Int) + 1))), (10, .int .i64 (k : Int))] (by kernel_rfl) rfl ?_; clear HF; intro a HF
        replace HF := HF.as (t := 11) (u := .int .i64 ((k + 1 : Nat) : Int)) rfl (by rw [IntWalk.i64_in _ (by omega)]; simp)
        refine from_pures HF 1 2 (j := 3) [(4, .int .i64 ((k + 1 : Nat) : Int))] (by kernel_rfl) rfl ?_; clear HF; intro a HF
        refine from_done rfl ?_
        replace HF := HF.sub (σ' := [(4, .int .i64 ((k + 1 : Nat) : Int)), (64, .bool false), (18, .bool false), (5, .int .i64 (e.check : Int)), (9, .bool true), (3, .int .i64 0), (2, .int .i64 0), (0, .slice (some ⟨gA, oA, none⟩) n c)]) (by kernel_rfl)
        exact ⟨_, (by omega), k + 1, by omega, hj.trans hgo, rfl, HF.sub (by kernel_rfl), HM.picks [] (by decide) rfl⟩
  · have HF := HF.as (t := 9) (u := .bool false) rfl (by rw [hb9])
    have hk9 : k = n := by simp at hb9; omega
    refine cond_false HF rfl ?_
    refine wp_exit ?_
    refine wp_seq ?_
    refine from_start ?_
    refine from_pures HF 2 0 (j := 2) [(3, .int .i64 0), (2, .int .i64 (-1))] (by kernel_rfl) rfl ?_; clear HF; intro a HF
    refine from_done rfl ?_
    replace HF := HF.sub (σ' := [(3, .int .i64 0), (2, .int .i64 (-1)), (9, .bool false), (4, .int .i64 (k : Int)), (0, .slice A n c)]) (by kernel_rfl)
    refine wp_ret ?_
    exact ret2 rfl HF (.tmp HF rfl) (.tmp HF rfl) (⟨by rw [hj, hk9, List.drop_eq_nil_of_le (by omega)]; cases prevOf l n <;> rfl, HM.below⟩)
end Go.Proofs.YtpekelggcmgnnaaDoor

/- quantumref07.Take is what codec.Take is. -/
set_option linter.all false
namespace Go.Proofs.YtpekelggcmgnnaaDoor
open Go.RowKit
set_option maxRecDepth 100000 in
set_option maxHeartbeats 4000000 in
theorem take07_any (b : Bs) (cpu : Nat) (hcpu : cpu < 256) (A : Option Addr) (n c : Nat) (l : List Nat) (w : World) (hr : Rd w w.heap.size 1 A n (l.map B8)) (hc : n ≤ c) (hl : ∀ b ∈ l, b < 256) (hn : n ≤ 140737488355328) (hln : l.length = n) :
    Calls Tryd.prog 47 #[.agg b.cells, .int .u8 (cpu : Int), .slice A n c] w (TakePost w (takeR b cpu l)) := by
  refine calls_enter (vs := [.agg b.cells, .int .u8 (cpu : Int), .slice A n c]) Tryd.func47 rfl rfl (by kernel_rfl) (σ0 := [(0, .agg b.cells), (1, .int .u8 (cpu : Int)), (2, .slice A n c)]) rfl ?_
  intro a HF
  have HM := Mem.start w
  refine wp_seq ?_
  refine from_start ?_
  refine from_op HF (i := 0) rfl rfl ?_
  refine e_box HF HM (cs := b.cells) rfl rfl rfl rfl (by decide) ?_
  clear HF HM; intro a w3 g3 HF HM
  refine from_op HF (i := 1) rfl rfl ?_
  refine e_alloc HF HM (cs := #[.int .i64 0, .int .i64 0, .int .u8 0, .int .u8 0, .int .i64 0, .int .i64 0, .int .i64 0, .int .i64 0, .int .i64 0, .int .u64 0, .int .i64 0]) rfl (by kernel_rfl) rfl (by decide) ?_
  clear HF HM; intro a w6 g6 HF HM
  refine from_pures HF 2 2 (j := 4) [(8, .int .i64 0), (7, .int .i64 0)] (by kernel_rfl) rfl ?_; clear HF; intro a HF
  refine from_done rfl ?_
  replace HF := HF.sub (σ' := [(8, .int .i64 0), (7, .int .i64 0), (6, .pointer (some ⟨g6, 0, none⟩)), (3, .pointer (some ⟨g3, 0, none⟩)), (1, .int .u8 (cpu : Int)), (2, .slice A n c)]) (by kernel_rfl)
  refine wp_seq ?_
  refine from_start ?_
  refine from_yl (S := fun wS => Mem w wS _) HF HM (i := 0) rfl rfl (d := 17) rfl (by decide) (v := .agg Ev.zero.cells) ((Yl.build (vs := []) rfl (by kernel_rfl) (by kernel_rfl))) ?_; clear HF; intro a HF
  refine from_op HF (i := 1) rfl rfl ?_
  refine e_alloc HF HM (cs := #[.int .i64 0, .int .i64 0, .int .u8 0, .int .u8 0, .int .i64 0, .int .i64 0, .int .i64 0, .int .i64 0, .int .i64 0, .int .u64 0, .int .i64 0]) rfl (by kernel_rfl) rfl (by decide) ?_
  clear HF HM; intro a w9 g9 HF HM
  refine from_op HF (i := 2) rfl rfl ?_
  refine e_storeAll HF HM (i := 0) (cs := #[.int .i64 0, .int .i64 0, .int .u8 0, .int .u8 0, .int .i64 0, .int .i64 0, .int .i64 0, .int .i64 0, .int .i64 0, .int .u64 0, .int .i64 0]) (ds := Ev.zero.cells) rfl rfl rfl rfl ⟨(by kernel_rfl), (by kernel_rfl)⟩ rfl rfl (ev_one Ev.zero) rfl ?_
  clear HM; intro w1_2 HM
  refine from_done rfl ?_
  replace HF := HF.sub (σ' := [(9, .pointer (some ⟨g9, 0, none⟩)), (8, .int .i64 0), (7, .int .i64 0), (6, .pointer (some ⟨g6, 0, none⟩)), (3, .pointer (some ⟨g3, 0, none⟩)), (1, .int .u8 (cpu : Int)), (2, .slice A n c)]) (by kernel_rfl)
  refine wp_seq ?_
  refine wp_seq ?_
  refine from_start ?_
  refine from_yl (S := fun wS => Mem w wS _) HF HM (i := 0) rfl rfl (d := 18) rfl (by decide) (v := .agg b.cells) (Yl.loadS rfl rfl ⟨(by kernel_rfl), (by kernel_rfl)⟩ rfl (fun _ h => range_of_block (h.blk (i := 2) rfl))) ?_; clear HF; intro a HF
  refine from_op HF (i := 1) rfl rfl ?_
  refine e_call HF (vs := [.agg b.cells]) rfl (by kernel_rfl) (by kernel_rfl) rfl (by decide) (right07_any b _) ?_
  rintro _ w19 ⟨rfl, hbw⟩
  refine ⟨_, rfl, ?_⟩
  replace HM := HM.call hbw
  clear HF; intro a HF
  refine from_pures HF 1 2 (j := 3) [(20, .bool (!b.right))] (by kernel_rfl) rfl ?_; clear HF; intro a HF
  refine from_done rfl ?_
  replace HF := HF.sub (σ' := [(20, .bool (!b.right)), (9, .pointer (some ⟨g9, 0, none⟩)), (8, .int .i64 0), (7, .int .i64 0), (6, .pointer (some ⟨g6, 0, none⟩)), (3, .pointer (some ⟨g3, 0, none⟩)), (1, .int .u8 (cpu : Int)), (2, .slice A n c)]) (by kernel_rfl)
  rcases Bool.eq_false_or_eq_true (!b.right) with hb20 | hb20
  · have HF := HF.as (t := 20) (u := .bool true) rfl (by rw [hb20])
    have hrf : b.right = false := by simpa using hb20
    refine cond_true HF rfl ?_
    refine wp_seq ?_
    refine from_start ?_
    refine from_yl (S := fun wS => Mem w wS _) HF HM (i := 0) rfl rfl (d := 21) rfl (by decide) (v := .agg Ev.zero.cells) (Yl.loadS rfl rfl ⟨(by kernel_rfl), (by kernel_rfl)⟩ rfl (fun _ h => range_of_block (h.blk (i := 0) rfl))) ?_; clear HF; intro a HF
    refine from_op HF (i := 1) rfl rfl ?_
    refine e_storeAll HF HM (i := 1) (cs := #[.int .i64 0, .int .i64 0, .int .u8 0, .int .u8 0, .int .i64 0, .int .i64 0, .int .i64 0, .int .i64 0, .int .i64 0, .int .u64 0, .int .i64 0]) (ds := Ev.zero.cells) rfl rfl rfl rfl ⟨(by kernel_rfl), (by kernel_rfl)⟩ rfl rfl (ev_one Ev.zero) rfl ?_
    clear HM; intro w3_1 HM
    refine from_pures HF 2 2 (j := 4) [(8, .int .i64 70), (7, .int .i64 0)] (by kernel_rfl) rfl ?_; clear HF; intro a HF
    refine from_done rfl ?_
    replace HF := HF.sub (σ' := [(8, .int .i64 70), (7, .int .i64 0), (20, .bool true), (9, .pointer (some ⟨g9, 0, none⟩)), (6, .pointer (some ⟨g6, 0, none⟩)), (3, .pointer (some ⟨g3, 0, none⟩)), (1, .int .u8 (cpu : Int)), (2, .slice A n c)]) (by kernel_rfl)
    refine wp_ret ?_
    exact ret3 rfl HF (.cellS (i := 1) HF HM rfl rfl ⟨(by kernel_rfl), (by kernel_rfl)⟩ rfl) (.tmp HF rfl) (.tmp HF rfl) (⟨by rw [show takeR b cpu _ = _ from by rw [takeR, if_pos hrf]]; rfl, HM.below⟩)
  · have HF := HF.as (t := 20) (u := .bool false) rfl (by rw [hb20])
    have hrt : b.right = true := by simpa using hb20
    have hbd := right_bnd hrt
    refine cond_false HF rfl ?_
    refine wp_skip ?_
    refine wp_seq ?_
    refine wp_seq ?_
    refine from_start ?_
    refine from_pures HF 1 0 (j := 1) [(22, .slice A n c)] (by kernel_rfl) rfl ?_; clear HF; intro a HF
    refine from_yl (S := fun wS => Mem w wS _) HF HM (i := 1) rfl rfl (d := 23) rfl (by decide) (v := .int .i64 ((n : Nat) : Int)) (Yl.len rfl rfl (by kernel_rfl)) ?_; clear HF; intro a HF
    refine from_pures HF 1 2 (j := 3) [(24, .bool ((((n : Nat) : Int) : Int) == (0 : Int)))] (by kernel_rfl) rfl ?_; clear HF; intro a HF
    refine from_done rfl ?_
    replace HF := HF.sub (σ' := [(24, .bool ((((n : Nat) : Int) : Int) == (0 : Int))), (20, .bool false), (9, .pointer (some ⟨g9, 0, none⟩)), (8, .int .i64 0), (7, .int .i64 0), (6, .pointer (some ⟨g6, 0, none⟩)), (3, .pointer (some ⟨g3, 0, none⟩)), (1, .int .u8 (cpu : Int)), (2, .slice A n c)]) (by kernel_rfl)
    rcases Bool.eq_false_or_eq_true ((((n : Nat) : Int) : Int) == (0 : Int)) with hb24 | hb24
    · have HF := HF.as (t := 24) (u := .bool true) rfl (by rw [hb24])
      have hn0 : l = [] := by simp at hb24; exact List.length_eq_zero_iff.1 (by omega)
      refine cond_true HF rfl ?_
      refine wp_seq ?_
      refine from_start ?_
      refine from_yl (S := fun wS => Mem w wS _) HF HM (i := 0) rfl rfl (d := 25) rfl (by decide) (v := .agg Ev.zero.cells) (Yl.loadS rfl rfl ⟨(by kernel_rfl), (by kernel_rfl)⟩ rfl (fun _ h => range_of_block (h.blk (i := 0) rfl))) ?_; clear HF; intro a HF
      refine from_op HF (i := 1) rfl rfl ?_
      refine e_storeAll HF HM (i := 1) (cs := #[.int .i64 0, .int .i64 0, .int .u8 0, .int .u8 0, .int .i64 0, .int .i64 0, .int .i64 0, .int .i64 0, .int .i64 0, .int .u64 0, .int .i64 0]) (ds := Ev.zero.cells) rfl rfl rfl rfl ⟨(by kernel_rfl), (by kernel_rfl)⟩ rfl rfl (ev_one Ev.zero) rfl ?_
      clear HM; intro w5_1 HM
      refine from_pures HF 2 2 (j := 4) [(8, .int .i64 10), (7, .int .i64 0)] (by kernel_rfl) rfl ?_; clear HF; intro a HF
      refine from_done rfl ?_
      replace HF := HF.sub (σ' := [(8, .int .i64 10), (7, .int .i64 0), (24, .bool true), (20, .bool false), (9, .pointer (some ⟨g9, 0, none⟩)), (6, .pointer (some ⟨g6, 0, none⟩)), (3, .pointer (some ⟨g3, 0, none⟩)), (1, .int .u8 (cpu : Int)), (2, .slice A n c)]) (by kernel_rfl)
      refine wp_ret ?_
      exact ret3 rfl HF (.cellS (i := 1) HF HM rfl rfl ⟨(by kernel_rfl), (by kernel_rfl)⟩ rfl) (.tmp HF rfl) (.tmp HF rfl) (⟨by rw [show takeR b cpu _ = _ from by rw [takeR, if_neg (by simp [hrt]), if_pos hn0]]; rfl, HM.below⟩)
    · have HF := HF.as (t := 24) (u := .bool false) rfl (by rw [hb24])
      have hn0 : 0 < n := by simp at hb24; omega
      obtain ⟨kd, r, rfl⟩ : ∃ kd r, l = kd :: r := by cases l with
        | nil => simp at hln; omega
        | cons a b => exact ⟨a, b, rfl⟩
      have hkd : kd < 256 := hl kd (by simp)
      simp only [List.length_cons] at hln
      have hul := usesL_len kd
      refine cond_false HF rfl ?_
      refine wp_skip ?_
      refine wp_seq ?_
      refine wp_seq ?_
      refine from_start ?_
      refine from_pures HF 1 0 (j := 1) [(26, .slice A n c)] (by kernel_rfl) rfl ?_; clear HF; intro a HF
      obtain ⟨gA, oA, rfl, _⟩ := hr.some_at (Nat.lt_of_le_of_lt (Nat.zero_le _) (show 0 < n from by omega)) (by decide)
      refine from_yl (S := fun wS => Mem w wS _) HF HM (i := 1) rfl rfl (d := 27) rfl (by decide) (v := .pointer (some ⟨gA, oA, none⟩)) (Yl.indexAddr (ad := ⟨gA, oA, none⟩) (y := 0) (sz := 1) rfl rfl rfl (by omega) (by kernel_rfl)) ?_; clear HF; intro a HF
      refine from_yl (S := fun wS => Mem w wS _) HF HM (i := 2) rfl rfl (d := 28) rfl (by decide) (v := .int .u8 (kd : Int)) (Yl.load1 rfl rfl (by kernel_rfl) (fun _ h => (h.old hr).oneAt1 (k := 0) (map_at (F := B8) (k := 0) (x := kd) (rfl)))) ?_; clear HF; intro a HF
      refine from_op HF (i := 3) rfl rfl ?_
      refine e_call HF (vs := [.int .u8 (kd : Int)]) rfl (by kernel_rfl) (by kernel_rfl) rfl (by decide) (name06_any kd hkd _) ?_
      rintro _ w29 ⟨⟨s, rfl, hs⟩, hbw⟩
      refine ⟨_, rfl, ?_⟩
      replace HM := HM.call hbw
      clear HF; intro a HF
      refine from_pures HF 1 4 (j := 5) [(30, .bool ((s).toList == ((ByteArray.mk #[])).toList))] (by kernel_rfl) rfl ?_; clear HF; intro a HF
      replace HF := HF.as (t := 30) (u := .bool (!decide (1 ≤ kd ∧ kd ≤ 10))) rfl (by rw [str_empty hs])
      refine from_done rfl ?_
      replace HF := HF.sub (σ' := [(30, .bool (!decide (1 ≤ kd ∧ kd ≤ 10))), (24, .bool false), (20, .bool false), (9, .pointer (some ⟨g9, 0, none⟩)), (8, .int .i64 0), (7, .int .i64 0), (6, .pointer (some ⟨g6, 0, none⟩)), (3, .pointer (some ⟨g3, 0, none⟩)), (1, .int .u8 (cpu : Int)), (2, .slice (some ⟨gA, oA, none⟩) n c)]) (by kernel_rfl)
      rcases Bool.eq_false_or_eq_true (!decide (1 ≤ kd ∧ kd ≤ 10)) with hb30 | hb30
      · have HF := HF.as (t := 30) (u := .bool true) rfl (by rw [hb30])
        have hku : (usesL kd).length = 0 := uses_kindless (by simp at hb30; omega)
        refine cond_true HF rfl ?_
        refine wp_seq ?_
        refine from_start ?_
        refine from_yl (S := fun wS => Mem w wS _) HF HM (i := 0) rfl rfl (d := 31) rfl (by decide) (v := .agg Ev.zero.cells) (Yl.loadS rfl rfl ⟨(by kernel_rfl), (by kernel_rfl)⟩ rfl (fun _ h => range_of_block (h.blk (i := 0) rfl))) ?_; clear HF; intro a HF
        refine from_op HF (i := 1) rfl rfl ?_
        refine e_storeAll HF HM (i := 1) (cs := #[.int .i64 0, .int .i64 0, .int .u8 0, .int .u8 0, .int .i64 0, .int .i64 0, .int .i64 0, .int .i64 0, .int .i64 0, .int .u64 0, .int .i64 0]) (ds := Ev.zero.cells) rfl rfl rfl rfl ⟨(by kernel_rfl), (by kernel_rfl)⟩ rfl rfl (ev_one Ev.zero) rfl ?_
        clear HM; intro w7_1 HM
        refine from_pures HF 2 2 (j := 4) [(8, .int .i64 60), (7, .int .i64 0)] (by kernel_rfl) rfl ?_; clear HF; intro a HF
        refine from_done rfl ?_
        replace HF := HF.sub (σ' := [(8, .int .i64 60), (7, .int .i64 0), (30, .bool true), (24, .bool false), (20, .bool false), (9, .pointer (some ⟨g9, 0, none⟩)), (6, .pointer (some ⟨g6, 0, none⟩)), (3, .pointer (some ⟨g3, 0, none⟩)), (1, .int .u8 (cpu : Int)), (2, .slice (some ⟨gA, oA, none⟩) n c)]) (by kernel_rfl)
        refine wp_ret ?_
        exact ret3 rfl HF (.cellS (i := 1) HF HM rfl rfl ⟨(by kernel_rfl), (by kernel_rfl)⟩ rfl) (.tmp HF rfl) (.tmp HF rfl) (⟨by rw [show takeR b cpu _ = _ from takeR_kindless hrt hku]; rfl, HM.below⟩)
      · have HF := HF.as (t := 30) (u := .bool false) rfl (by rw [hb30])
        have hku : (usesL kd).length ≠ 0 := uses_kind (by simp at hb30; omega)
        refine cond_false HF rfl ?_
        refine wp_skip ?_
        refine wp_seq ?_
        refine from_start ?_
        refine from_pures HF 1 0 (j := 1) [(10, .int .i64 1)] (by kernel_rfl) rfl ?_; clear HF; intro a HF
        refine from_done rfl ?_
        replace HF := HF.sub (σ' := [(10, .int .i64 1), (30, .bool false), (24, .bool false), (20, .bool false), (9, .pointer (some ⟨g9, 0, none⟩)), (8, .int .i64 0), (7, .int .i64 0), (6, .pointer (some ⟨g6, 0, none⟩)), (3, .pointer (some ⟨g3, 0, none⟩)), (1, .int .u8 (cpu : Int)), (2, .slice (some ⟨gA, oA, none⟩) n c)]) (by kernel_rfl)
        refine wp_seq ?_
        refine from_start ?_
        refine from_pures HF 1 0 (j := 1) [(11, .slice none 0 0)] (by kernel_rfl) rfl ?_; clear HF; intro a HF
        refine from_done rfl ?_
        replace HM := HM.nil 35 1
        refine wp_seq ?_
        refine wp_block ?_
        refine loop_nat (fun mS aS wS => ∃ (u : Nat) (xs : List Nat) (Ak : Option Addr) (ck : Nat), (1 + u ≤ n) ∧ (∀ x ∈ xs, x < 18446744073709551616) ∧ (xs.length ≤ (2 + (usesL kd).length)) ∧ (xs.length ≤ ck) ∧ (readN (2 + (usesL kd).length) r = joinR xs u (readN ((2 + (usesL kd).length) - xs.length) (r.drop u))) ∧ mS = (2 + (usesL kd).length) - xs.length ∧ Fr aS 101 [] [(11, .slice Ak xs.length ck), (10, .int .i64 ((1 + u : Nat) : Int)), (30, .bool false), (24, .bool false), (20, .bool false), (9, .pointer (some ⟨g9, 0, none⟩)), (8, .int .i64 0), (7, .int .i64 0), (6, .pointer (some ⟨g6, 0, none⟩)), (3, .pointer (some ⟨g3, 0, none⟩)), (1, .int .u8 (cpu : Int)), (2, .slice (some ⟨gA, oA, none⟩) n c)] ∧ Mem w wS [.row (.slice Ak xs.length ck) xs.length (xs.map U64) 35 1, .blk g9 Ev.zero.cells 64, .blk g6 #[.int .i64 0, .int .i64 0, .int .u8 0, .int .u8 0, .int .i64 0, .int .i64 0, .int .i64 0, .int .i64 0, .int .i64 0, .int .u64 0, .int .i64 0] 64, .blk g3 b.cells 63]) (m := (2 + (usesL kd).length) - [].length) ⟨0, [], none, 0, by omega, fun x hx => (by cases hx), Nat.zero_le _, Nat.le_refl _, (joinR_nil _ (readN_bad _ _)).symm, rfl, HF.sub (by kernel_rfl), HM.picks [0, 1, 2, 3] (by decide) rfl⟩ ?_
        clear HF HM; rintro mS a w_ ⟨u, xs, Ak, ck, hu, hxs, hxl, hck, hj, rfl, HF, HM⟩
        refine wp_seq ?_
        refine wp_seq ?_
        refine from_start ?_
        refine from_pures HF 1 0 (j := 1) [(32, .slice Ak xs.length ck)] (by kernel_rfl) rfl ?_; clear HF; intro a HF
        refine from_yl (S := fun wS => Mem w wS _) HF HM (i := 1) rfl rfl (d := 33) rfl (by decide) (v := .int .i64 ((xs.length : Nat) : Int)) (Yl.len rfl rfl (by kernel_rfl)) ?_; clear HF; intro a HF
        refine from_pures HF 1 2 (j := 3) [(34, .slice (some ⟨gA, oA, none⟩) n c)] (by kernel_rfl) rfl ?_; clear HF; intro a HF
        refine from_yl (S := fun wS => Mem w wS _) HF HM (i := 3) rfl rfl (d := 35) rfl (by decide) (v := .pointer (some ⟨gA, oA, none⟩)) (Yl.indexAddr (ad := ⟨gA, oA, none⟩) (y := 0) (sz := 1) rfl rfl rfl (by omega) (by kernel_rfl)) ?_; clear HF; intro a HF
        refine from_yl (S := fun wS => Mem w wS _) HF HM (i := 4) rfl rfl (d := 36) rfl (by decide) (v := .int .u8 (kd : Int)) (Yl.load1 rfl rfl (by kernel_rfl) (fun _ h => (h.old hr).oneAt1 (k := 0) (map_at (F := B8) (k := 0) (x := kd) (rfl)))) ?_; clear HF; intro a HF
        refine from_op HF (i := 5) rfl rfl ?_
        refine e_call HF (vs := [.int .u8 (kd : Int)]) rfl (by kernel_rfl) (by kernel_rfl) rfl (by decide) (fields06_any kd hkd _) ?_
        rintro _ w37 ⟨⟨v, xs37, rfl, ho⟩, hbw⟩
        obtain ⟨A37, c37, rfl, hc37⟩ := own_slice ho
        refine ⟨_, rfl, ?_⟩
        replace HM := HM.callRow hbw ho
        clear HF; intro a HF
        refine from_yl (S := fun wS => Mem w wS _) HF HM (i := 6) rfl rfl (d := 38) rfl (by decide) (v := .int .i64 (((usesL kd).length : Nat) : Int)) (Yl.len rfl rfl (by kernel_rfl)) ?_; clear HF; intro a HF
        refine from_pures HF 1 7 (j := 8) [(39, .int .i64 (IntKind.i64.wrap (2 + (((usesL kd).length : Nat) : Int))))] (by kernel_rfl) rfl ?_; clear HF; intro a HF
        replace HF := HF.as (t := 39) (u := .int .i64 ((2 + (usesL kd).length : Nat) : Int)) rfl (by rw [IntWalk.i64_in _ (by omega)]; simp)
        refine from_pures HF 1 8 (j := 9) [(40, .bool (decide ((((xs.length : Nat) : Int) : Int) < (((2 + (usesL kd).length : Nat) : Int) : Int))))] (by kernel_rfl) rfl ?_; clear HF; intro a HF
        refine from_done rfl ?_
        replace HF := HF.sub (σ' := [(40, .bool (decide ((((xs.length : Nat) : Int) : Int) < (((2 + (usesL kd).length : Nat) : Int) : Int)))), (11, .slice Ak xs.length ck), (10, .int .i64 ((1 + u : Nat) : Int)), (30, .bool false), (24, .bool false), (20, .bool false), (9, .pointer (some ⟨g9, 0, none⟩)), (8, .int .i64 0), (7, .int .i64 0), (6, .pointer (some ⟨g6, 0, none⟩)), (3, .pointer (some ⟨g3, 0, none⟩)), (1, .int .u8 (cpu : Int)), (2, .slice (some ⟨gA, oA, none⟩) n c)]) (by kernel_rfl)
        replace HM := HM.picks (fs' := [.row (.slice Ak xs.length ck) xs.length (xs.map U64) 35 1, .blk g9 Ev.zero.cells 64, .blk g6 #[.int .i64 0, .int .i64 0, .int .u8 0, .int .u8 0, .int .i64 0, .int .i64 0, .int .i64 0, .int .i64 0, .int .i64 0, .int .u64 0, .int .i64 0] 64, .blk g3 b.cells 63]) [1, 2, 3, 4] (by decide) rfl
        rcases Bool.eq_false_or_eq_true (decide ((((xs.length : Nat) : Int) : Int) < (((2 + (usesL kd).length : Nat) : Int) : Int))) with hb40 | hb40
        · have HF := HF.as (t := 40) (u := .bool true) rfl (by rw [hb40])
          have hlt : xs.length < (2 + (usesL kd).length) := by simp at hb40; omega
          obtain ⟨q, hq⟩ : ∃ q, vread (r.drop u) = q := ⟨_, rfl⟩
          have hq64 := vread_bound (r.drop u) (fun y hy => hl y (List.mem_cons_of_mem _ (List.mem_of_mem_drop hy)))
          have hql := vread_len (r.drop u)
          rw [List.length_drop] at hql
          rw [hq] at hq64 hql
          refine cond_true HF rfl ?_
          refine wp_skip ?_
          refine wp_block ?_
          refine wp_seq ?_
          refine from_start ?_
          refine from_pures HF 2 0 (j := 2) [(43, .int .i64 ((1 + u : Nat) : Int)), (42, .slice (some ⟨gA, oA, none⟩) n c)] (by kernel_rfl) rfl ?_; clear HF; intro a HF
          refine from_yl (S := fun wS => Mem w wS _) HF HM (i := 2) rfl rfl (d := 44) rfl (by decide) (v := .slice (if c = (1 + u) then some ⟨gA, oA, none⟩ else (some ⟨gA, oA, none⟩ : Option Addr).map (·.add ((1 + u) * 1))) (n - (1 + u)) (c - (1 + u))) (Yl.sliceFrom ei_u8 (j := (1 + u)) rfl rfl rfl (by omega)) ?_; clear HF; intro a HF
          refine from_op HF (i := 3) rfl rfl ?_
          refine e_call HF (vs := [.slice (if c = (1 + u) then some ⟨gA, oA, none⟩ else (some ⟨gA, oA, none⟩ : Option Addr).map (·.add ((1 + u) * 1))) (n - (1 + u)) (c - (1 + u))]) rfl (by kernel_rfl) (by kernel_rfl) rfl (by decide) ((by have h := read01_any _ (n - (1 + u)) (c - (1 + u)) _ (r.drop u) _ (by have h := Rd.fromB8 (HM.old hr) (k := 1 + u) (by omega) hc; rw [show (kd :: r).drop (1 + u) = r.drop u from by rw [Nat.add_comm]; rfl] at h; exact h) (fun y hy => hl y (List.mem_cons_of_mem _ (List.mem_of_mem_drop hy))) (by omega); rw [hq] at h; exact h)) ?_
          rintro _ w45 ⟨rfl, rfl⟩
          refine ⟨_, rfl, ?_⟩
          replace HM := HM
          clear HF; intro a HF
          refine from_pures HF 7 4 (j := 11) [(14, .int .i64 (q.2.2 : Int)), (13, .int .i64 (q.2.1 : Int)), (12, .int .u64 (q.1 : Int)), (48, .int .i64 (q.2.2 : Int)), (47, .int .i64 (q.2.1 : Int)), (46, .int .u64 (q.1 : Int)), (41, .tuple #[.int .u64 (q.1 : Int), .int .i64 (q.2.1 : Int), .int .i64 (q.2.2 : Int)])] (by kernel_rfl) rfl ?_; clear HF; intro a HF
          refine from_done rfl ?_
          replace HF := HF.sub (σ' := [(14, .int .i64 (q.2.2 : Int)), (13, .int .i64 (q.2.1 : Int)), (12, .int .u64 (q.1 : Int)), (40, .bool true), (11, .slice Ak xs.length ck), (10, .int .i64 ((1 + u : Nat) : Int)), (30, .bool false), (24, .bool false), (20, .bool false), (9, .pointer (some ⟨g9, 0, none⟩)), (8, .int .i64 0), (7, .int .i64 0), (6, .pointer (some ⟨g6, 0, none⟩)), (3, .pointer (some ⟨g3, 0, none⟩)), (1, .int .u8 (cpu : Int)), (2, .slice (some ⟨gA, oA, none⟩) n c)]) (by kernel_rfl)
          refine wp_seq ?_
          refine wp_seq ?_
          refine from_start ?_
          refine from_pures HF 2 0 (j := 2) [(50, .bool (((q.2.2 : Int) : Int) != (0 : Int))), (49, .int .i64 (q.2.2 : Int))] (by kernel_rfl) rfl ?_; clear HF; intro a HF
          refine from_done rfl ?_
          replace HF := HF.sub (σ' := [(50, .bool (((q.2.2 : Int) : Int) != (0 : Int))), (14, .int .i64 (q.2.2 : Int)), (13, .int .i64 (q.2.1 : Int)), (12, .int .u64 (q.1 : Int)), (40, .bool true), (11, .slice Ak xs.length ck), (10, .int .i64 ((1 + u : Nat) : Int)), (30, .bool false), (24, .bool false), (20, .bool false), (9, .pointer (some ⟨g9, 0, none⟩)), (8, .int .i64 0), (7, .int .i64 0), (6, .pointer (some ⟨g6, 0, none⟩)), (3, .pointer (some ⟨g3, 0, none⟩)), (1, .int .u8 (cpu : Int)), (2, .slice (some ⟨gA, oA, none⟩) n c)]) (by kernel_rfl)
          rcases Bool.eq_false_or_eq_true (((q.2.2 : Int) : Int) != (0 : Int)) with hb50 | hb50
          · have HF := HF.as (t := 50) (u := .bool true) rfl (by rw [hb50])
            have hq2 : q.2.2 ≠ 0 := by rw [bne_iff_ne] at hb50; omega
            refine cond_true HF rfl ?_
            refine wp_seq ?_
            refine from_start ?_
            refine from_yl (S := fun wS => Mem w wS _) HF HM (i := 0) rfl rfl (d := 51) rfl (by decide) (v := .agg Ev.zero.cells) (Yl.loadS rfl rfl ⟨(by kernel_rfl), (by kernel_rfl)⟩ rfl (fun _ h => range_of_block (h.blk (i := 1) rfl))) ?_; clear HF; intro a HF
            refine from_pures HF 1 1 (j := 2) [(52, .int .i64 (q.2.2 : Int))] (by kernel_rfl) rfl ?_; clear HF; intro a HF
            refine from_op HF (i := 2) rfl rfl ?_
            refine e_storeAll HF HM (i := 2) (cs := #[.int .i64 0, .int .i64 0, .int .u8 0, .int .u8 0, .int .i64 0, .int .i64 0, .int .i64 0, .int .i64 0, .int .i64 0, .int .u64 0, .int .i64 0]) (ds := Ev.zero.cells) rfl rfl rfl rfl ⟨(by kernel_rfl), (by kernel_rfl)⟩ rfl rfl (ev_one Ev.zero) rfl ?_
            clear HM; intro w13_2 HM
            refine from_pures HF 2 3 (j := 5) [(8, .int .i64 (q.2.2 : Int)), (7, .int .i64 0)] (by kernel_rfl) rfl ?_; clear HF; intro a HF
            refine from_done rfl ?_
            replace HF := HF.sub (σ' := [(8, .int .i64 (q.2.2 : Int)), (7, .int .i64 0), (50, .bool true), (14, .int .i64 (q.2.2 : Int)), (13, .int .i64 (q.2.1 : Int)), (12, .int .u64 (q.1 : Int)), (40, .bool true), (11, .slice Ak xs.length ck), (10, .int .i64 ((1 + u : Nat) : Int)), (30, .bool false), (24, .bool false), (20, .bool false), (9, .pointer (some ⟨g9, 0, none⟩)), (6, .pointer (some ⟨g6, 0, none⟩)), (3, .pointer (some ⟨g3, 0, none⟩)), (1, .int .u8 (cpu : Int)), (2, .slice (some ⟨gA, oA, none⟩) n c)]) (by kernel_rfl)
            refine wp_ret ?_
            exact ret3 rfl HF (.cellS (i := 2) HF HM rfl rfl ⟨(by kernel_rfl), (by kernel_rfl)⟩ rfl) (.tmp HF rfl) (.tmp HF rfl) (⟨by rw [show takeR b cpu _ = _ from takeR_unread hrt hku hj hlt hq hq2]; rfl, HM.below⟩)
          · have HF := HF.as (t := 50) (u := .bool false) rfl (by rw [hb50])
            have hq2 : q.2.2 = 0 := by rw [bne_eq_false_iff_eq] at hb50; omega
            have hjn := readN_on hj hlt hq hq2
            refine cond_false HF rfl ?_
            refine wp_skip ?_
            refine wp_seq ?_
            refine from_start ?_
            refine from_pures HF 2 0 (j := 2) [(54, .int .u64 (q.1 : Int)), (53, .slice Ak xs.length ck)] (by kernel_rfl) rfl ?_; clear HF; intro a HF
            refine from_op HF (i := 2) rfl rfl ?_
            refine e_slice HF HM (vs := [(0, .int .u64 (q.1 : Int))]) (cs := #[.int .u64 (q.1 : Int)]) rfl ei_u64 (by decide) rfl (by kernel_rfl) rfl (by decide) ?_
            clear HF HM; intro a w55 g55 HF HM
            refine from_op HF (i := 3) rfl rfl ?_
            refine e_append HF HM (i := 1) rfl ei_u64 rfl rfl rfl (news := [U64 q.1]) (HM.rdBlk (i := 0) (n := 1) (size := 1) rfl rfl) (by simp [Value.oneCell', U64, B8]) (by omega) (by omega) rfl (by decide) ?_
            clear HF HM; intro a w56 A56 c56 HF HM hc56
            refine from_pures HF 1 4 (j := 5) [(11, .slice A56 (xs.length + 1) c56)] (by kernel_rfl) rfl ?_; clear HF; intro a HF
            refine from_done rfl ?_
            replace HF := HF.sub (σ' := [(11, .slice A56 (xs.length + 1) c56), (50, .bool false), (14, .int .i64 (q.2.2 : Int)), (13, .int .i64 (q.2.1 : Int)), (12, .int .u64 (q.1 : Int)), (40, .bool true), (10, .int .i64 ((1 + u : Nat) : Int)), (30, .bool false), (24, .bool false), (20, .bool false), (9, .pointer (some ⟨g9, 0, none⟩)), (8, .int .i64 0), (7, .int .i64 0), (6, .pointer (some ⟨g6, 0, none⟩)), (3, .pointer (some ⟨g3, 0, none⟩)), (1, .int .u8 (cpu : Int)), (2, .slice (some ⟨gA, oA, none⟩) n c)]) (by kernel_rfl)
            replace HM := HM.picks (fs' := [.row (.slice A56 (xs.length + 1) c56) (xs.length + 1) ((xs.map U64) ++ [U64 q.1]) 35 1, .blk g9 Ev.zero.cells 64, .blk g6 #[.int .i64 0, .int .i64 0, .int .u8 0, .int .u8 0, .int .i64 0, .int .i64 0, .int .i64 0, .int .i64 0, .int .i64 0, .int .u64 0, .int .i64 0] 64, .blk g3 b.cells 63]) [1, 2, 3, 4] (by decide) rfl
            have hnA56 : xs.length + 1 = (xs ++ [q.1]).length := by simp
            replace HM := HM.reRow (i := 0) (ys := (xs ++ [q.1]).map U64) rfl hnA56 (by simp)
            rw [hnA56] at hc56
            replace HF := HF.as (t := 11) (u := .slice A56 ((xs ++ [q.1]).length) c56) rfl (by rw [hnA56])
            refine from_start ?_
            refine from_pures HF 3 0 (j := 3) [(59, .int .i64 (IntKind.i64.wrap (((1 + u : Nat) : Int) + (q.2.1 : Int)))), (58, .int .i64 (q.2.1 : Int)), (57, .int .i64 ((1 + u : Nat) : Int))] (by kernel_rfl) rfl ?_; clear HF; intro a HF
            replace HF := HF.as (t := 59) (u := .int .i64 ((1 + (u + q.2.1) : Nat) : Int)) rfl (by rw [IntWalk.i64_in _ (by omega)]; congr 1; omega)
            refine from_pures HF 1 3 (j := 4) [(10, .int .i64 ((1 + (u + q.2.1) : Nat) : Int))] (by kernel_rfl) rfl ?_; clear HF; intro a HF
            refine from_done rfl ?_
            replace HF := HF.sub (σ' := [(10, .int .i64 ((1 + (u + q.2.1) : Nat) : Int)), (11, .slice A56 ((xs ++ [q.1]).length) c56), (50, .bool false), (14, .int .i64 (q.2.2 : Int)), (13, .int .i64 (q.2.1 : Int)), (12, .int .u64 (q.1 : Int)), (40, .bool true), (30, .bool false), (24, .bool false), (20, .bool false), (9, .pointer (some ⟨g9, 0, none⟩)), (8, .int .i64 0), (7, .int .i64 0), (6, .pointer (some ⟨g6, 0, none⟩)), (3, .pointer (some ⟨g3, 0, none⟩)), (1, .int .u8 (cpu : Int)), (2, .slice (some ⟨gA, oA, none⟩) n c)]) (by kernel_rfl)
            exact ⟨_, (by simp; omega), u + q.2.1, xs ++ [q.1], A56, c56, by omega, fun x hx => (List.mem_append.1 hx).elim (hxs x) (fun h => by rw [List.mem_singleton.1 h]; exact hq64), by simp; omega, hc56, hjn, rfl, HF.sub (by kernel_rfl), HM.picks [0, 1, 2, 3] (by decide) rfl⟩
        · have HF := HF.as (t := 40) (u := .bool false) rfl (by rw [hb40])
          have hge : xs.length = (2 + (usesL kd).length) := by simp at hb40; omega
          obtain ⟨x0, x1, vs, rfl⟩ : ∃ x0 x1 vs, xs = x0 :: x1 :: vs := by
            match xs, hge with
            | x0 :: x1 :: vs, _ => exact ⟨x0, x1, vs, rfl⟩
            | [], h => simp at h; omega
            | [a], h => simp at h; omega
          refine cond_false HF rfl ?_
          refine wp_exit ?_
          refine wp_seq ?_
          refine cut_seq (fun aS wS => Fr aS 101 [] [(69, .bool (decide (281474976710656 < x0 ∨ 281474976710656 < x1))), (40, .bool false), (11, .slice Ak ((x0 :: x1 :: vs).length) ck), (10, .int .i64 ((1 + u : Nat) : Int)), (30, .bool false), (24, .bool false), (20, .bool false), (9, .pointer (some ⟨g9, 0, none⟩)), (8, .int .i64 0), (7, .int .i64 0), (6, .pointer (some ⟨g6, 0, none⟩)), (3, .pointer (some ⟨g3, 0, none⟩)), (1, .int .u8 (cpu : Int)), (2, .slice (some ⟨gA, oA, none⟩) n c)] ∧ Mem w wS [.row (.slice Ak ((x0 :: x1 :: vs).length) ck) ((x0 :: x1 :: vs).length) ((x0 :: x1 :: vs).map U64) 35 1, .blk g9 Ev.zero.cells 64, .blk g6 #[.int .i64 0, .int .i64 0, .int .u8 0, .int .u8 0, .int .i64 0, .int .i64 0, .int .i64 0, .int .i64 0, .int .i64 0, .int .u64 0, .int .i64 0] 64, .blk g3 b.cells 63]) ?_ ?_
          ·
            refine from_start ?_
            refine from_pures HF 1 0 (j := 1) [(60, .slice Ak ((x0 :: x1 :: vs).length) ck)] (by kernel_rfl) rfl ?_; clear HF; intro a HF
            obtain ⟨gAk, rfl⟩ := own_some (HM.own (i := 0) rfl) (Nat.lt_of_le_of_lt (Nat.zero_le _) (show 0 < (x0 :: x1 :: vs).length from by simp))
            refine from_yl (S := fun wS => Mem w wS _) HF HM (i := 1) rfl rfl (d := 61) rfl (by decide) (v := .pointer (some ⟨gAk, 0, none⟩)) (Yl.indexAddr (ad := ⟨gAk, 0, none⟩) (y := 0) (sz := 1) rfl rfl rfl (by simp) (by kernel_rfl)) ?_; clear HF; intro a HF
            refine from_yl (S := fun wS => Mem w wS _) HF HM (i := 2) rfl rfl (d := 62) rfl (by decide) (v := .int .u64 (x0 : Int)) (Yl.load1 rfl rfl (by kernel_rfl) (fun _ h => h.rowOne (i := 0) rfl (k := 0) (map_at (F := U64) (k := 0) (x := x0) (rfl)))) ?_; clear HF; intro a HF
            refine from_pures HF 2 3 (j := 5) [(64, .bool (decide (((x0 : Int) : Int) > (281474976710656 : Int)))), (63, .bool (decide (((x0 : Int) : Int) > (281474976710656 : Int))))] (by kernel_rfl) rfl ?_; clear HF; intro a HF
            rcases Bool.eq_false_or_eq_true (decide (((x0 : Int) : Int) > (281474976710656 : Int))) with hb64 | hb64
            · have HF := HF.as (t := 64) (u := .bool true) rfl (by rw [hb64])
              refine from_pures HF 5 5 (j := 10) [(69, .bool true), (68, undef), (67, undef), (66, undef), (65, undef)] (by kernel_rfl) rfl ?_; clear HF; intro a HF
              refine from_done rfl ?_
              replace HF := HF.sub (σ' := [(69, .bool true), (40, .bool false), (11, .slice (some ⟨gAk, 0, none⟩) ((x0 :: x1 :: vs).length) ck), (10, .int .i64 ((1 + u : Nat) : Int)), (30, .bool false), (24, .bool false), (20, .bool false), (9, .pointer (some ⟨g9, 0, none⟩)), (8, .int .i64 0), (7, .int .i64 0), (6, .pointer (some ⟨g6, 0, none⟩)), (3, .pointer (some ⟨g3, 0, none⟩)), (1, .int .u8 (cpu : Int)), (2, .slice (some ⟨gA, oA, none⟩) n c)]) (by kernel_rfl)
              have HF := HF.as (t := 69) (u := .bool (decide (281474976710656 < x0 ∨ 281474976710656 < x1))) rfl (congrArg Value.bool (by skip; (try simp at hb40); (try simp at hb64); rw [Bool.eq_iff_iff]; (try simp [hb40, hb64]); (try omega)))
              exact ⟨HF.sub (by kernel_rfl), HM.picks [0, 1, 2, 3] (by decide) rfl⟩
            · have HF := HF.as (t := 64) (u := .bool false) rfl (by rw [hb64])
              refine from_pures HF 1 5 (j := 6) [(65, .slice (some ⟨gAk, 0, none⟩) ((x0 :: x1 :: vs).length) ck)] (by kernel_rfl) rfl ?_; clear HF; intro a HF
              refine from_yl (S := fun wS => Mem w wS _) HF HM (i := 6) rfl rfl (d := 66) rfl (by decide) (v := .pointer (some ⟨gAk, 1, none⟩)) (Yl.indexAddr (ad := ⟨gAk, 0, none⟩) (y := 1) (sz := 1) rfl rfl rfl (by simp) (by kernel_rfl)) ?_; clear HF; intro a HF
              refine from_yl (S := fun wS => Mem w wS _) HF HM (i := 7) rfl rfl (d := 67) rfl (by decide) (v := .int .u64 (x1 : Int)) (Yl.load1 rfl rfl (by kernel_rfl) (fun _ h => h.rowOne (i := 0) rfl (k := 1) (map_at (F := U64) (k := 1) (x := x1) (rfl)))) ?_; clear HF; intro a HF
              refine from_pures HF 2 8 (j := 10) [(69, .bool (decide (((x1 : Int) : Int) > (281474976710656 : Int)))), (68, .bool (decide (((x1 : Int) : Int) > (281474976710656 : Int))))] (by kernel_rfl) rfl ?_; clear HF; intro a HF
              refine from_done rfl ?_
              replace HF := HF.sub (σ' := [(69, .bool (decide (((x1 : Int) : Int) > (281474976710656 : Int)))), (40, .bool false), (11, .slice (some ⟨gAk, 0, none⟩) ((x0 :: x1 :: vs).length) ck), (10, .int .i64 ((1 + u : Nat) : Int)), (30, .bool false), (24, .bool false), (20, .bool false), (9, .pointer (some ⟨g9, 0, none⟩)), (8, .int .i64 0), (7, .int .i64 0), (6, .pointer (some ⟨g6, 0, none⟩)), (3, .pointer (some ⟨g3, 0, none⟩)), (1, .int .u8 (cpu : Int)), (2, .slice (some ⟨gA, oA, none⟩) n c)]) (by kernel_rfl)
              have HF := HF.as (t := 69) (u := .bool (decide (281474976710656 < x0 ∨ 281474976710656 < x1))) rfl (congrArg Value.bool (by skip; (try simp at hb40); (try simp at hb64); rw [Bool.eq_iff_iff]; (try simp [hb40, hb64]); (try omega)))
              exact ⟨HF.sub (by kernel_rfl), HM.picks [0, 1, 2, 3] (by decide) rfl⟩
          clear HF HM; rintro a w16 ⟨HF, HM⟩
          rcases Bool.eq_false_or_eq_true (decide (281474976710656 < x0 ∨ 281474976710656 < x1)) with hb69 | hb69
          · have HF := HF.as (t := 69) (u := .bool true) rfl (by rw [hb69])
            have hfar : 281474976710656 < x0 ∨ 281474976710656 < x1 := by simpa using hb69
            refine cond_true HF rfl ?_
            refine wp_seq ?_
            refine from_start ?_
            refine from_yl (S := fun wS => Mem w wS _) HF HM (i := 0) rfl rfl (d := 70) rfl (by decide) (v := .agg Ev.zero.cells) (Yl.loadS rfl rfl ⟨(by kernel_rfl), (by kernel_rfl)⟩ rfl (fun _ h => range_of_block (h.blk (i := 1) rfl))) ?_; clear HF; intro a HF
            refine from_op HF (i := 1) rfl rfl ?_
            refine e_storeAll HF HM (i := 2) (cs := #[.int .i64 0, .int .i64 0, .int .u8 0, .int .u8 0, .int .i64 0, .int .i64 0, .int .i64 0, .int .i64 0, .int .i64 0, .int .u64 0, .int .i64 0]) (ds := Ev.zero.cells) rfl rfl rfl rfl ⟨(by kernel_rfl), (by kernel_rfl)⟩ rfl rfl (ev_one Ev.zero) rfl ?_
            clear HM; intro w17_1 HM
            refine from_pures HF 2 2 (j := 4) [(8, .int .i64 61), (7, .int .i64 0)] (by kernel_rfl) rfl ?_; clear HF; intro a HF
            refine from_done rfl ?_
            replace HF := HF.sub (σ' := [(8, .int .i64 61), (7, .int .i64 0), (69, .bool true), (40, .bool false), (11, .slice Ak ((x0 :: x1 :: vs).length) ck), (10, .int .i64 ((1 + u : Nat) : Int)), (30, .bool false), (24, .bool false), (20, .bool false), (9, .pointer (some ⟨g9, 0, none⟩)), (6, .pointer (some ⟨g6, 0, none⟩)), (3, .pointer (some ⟨g3, 0, none⟩)), (1, .int .u8 (cpu : Int)), (2, .slice (some ⟨gA, oA, none⟩) n c)]) (by kernel_rfl)
            refine wp_ret ?_
            exact ret3 rfl HF (.cellS (i := 2) HF HM rfl rfl ⟨(by kernel_rfl), (by kernel_rfl)⟩ rfl) (.tmp HF rfl) (.tmp HF rfl) (⟨by rw [show takeR b cpu _ = _ from (takeR_read hrt hku hj hge).trans (takeEv_far ⟨hbd.1, hbd.2.2.1⟩ hfar)]; rfl, HM.below⟩)
          · have HF := HF.as (t := 69) (u := .bool false) rfl (by rw [hb69])
            have hnear : ¬ (281474976710656 < x0 ∨ 281474976710656 < x1) := by simpa using hb69
            have hev := bev_ok (x0 := x0) (x1 := x1) hbd hcpu hkd hnear
            refine cond_false HF rfl ?_
            refine wp_skip ?_
            refine cut_seq (fun aS wS => ∃ (g15 : Nat), Fr aS 101 [] [(16, .int .i64 ((b.ev cpu kd x0 x1).withErr vs : Int)), (15, .pointer (some ⟨g15, 0, none⟩)), (69, .bool false), (40, .bool false), (11, .slice Ak ((x0 :: x1 :: vs).length) ck), (10, .int .i64 ((1 + u : Nat) : Int)), (30, .bool false), (24, .bool false), (20, .bool false), (9, .pointer (some ⟨g9, 0, none⟩)), (8, .int .i64 0), (7, .int .i64 0), (6, .pointer (some ⟨g6, 0, none⟩)), (3, .pointer (some ⟨g3, 0, none⟩)), (2, .slice (some ⟨gA, oA, none⟩) n c)] ∧ Mem w wS [.blk g15 (((b.ev cpu kd x0 x1).withEv vs).cells) 64, .row (.slice Ak ((x0 :: x1 :: vs).length) ck) ((x0 :: x1 :: vs).length) ((x0 :: x1 :: vs).map U64) 35 1, .blk g9 Ev.zero.cells 64, .blk g6 #[.int .i64 0, .int .i64 0, .int .u8 0, .int .u8 0, .int .i64 0, .int .i64 0, .int .i64 0, .int .i64 0, .int .i64 0, .int .u64 0, .int .i64 0] 64, .blk g3 b.cells 63]) ?_ ?_
            ·
              refine any_start (by kernel_rfl) (fun wS => Mem w wS [.row (.slice Ak ((x0 :: x1 :: vs).length) ck) ((x0 :: x1 :: vs).length) ((x0 :: x1 :: vs).map U64) 35 1, .blk g9 Ev.zero.cells 64, .blk g6 #[.int .i64 0, .int .i64 0, .int .u8 0, .int .u8 0, .int .i64 0, .int .i64 0, .int .i64 0, .int .i64 0, .int .i64 0, .int .u64 0, .int .i64 0] 64, .blk g3 b.cells 63]) [26] ?_
              replace HM := HM.drew
              have HS := HM.picks (fs' := [.row (.slice Ak ((x0 :: x1 :: vs).length) ck) ((x0 :: x1 :: vs).length) ((x0 :: x1 :: vs).map U64) 35 1, .blk g9 Ev.zero.cells 64, .blk g6 #[.int .i64 0, .int .i64 0, .int .u8 0, .int .u8 0, .int .i64 0, .int .i64 0, .int .i64 0, .int .i64 0, .int .i64 0, .int .u64 0, .int .i64 0] 64, .blk g3 b.cells 63]) [0, 1, 2, 3] (by decide) rfl
              refine any_pures HF (fun _ => HS) (fun _ _ d _ _ h => by cases d <;> exact h) [0, 2, 7, 9, 14, 15, 19] #[true, false, true, false, false, false, false, true, false, true, false, false, false, false, true, true, false, false, false, true, false, false, false, false, false, false, false, false] [(91, .slice Ak ((x0 :: x1 :: vs).length) ck), (87, .slice (some ⟨gA, oA, none⟩) n c), (86, .int .u8 (cpu : Int)), (81, .slice Ak ((x0 :: x1 :: vs).length) ck), (79, .pointer (some ⟨g3, 1, none⟩)), (74, .slice Ak ((x0 :: x1 :: vs).length) ck), (72, .pointer (some ⟨g3, 0, none⟩))] (by kernel_rfl) ?_; clear HF; intro a HF
              refine any_yl HF HS (i := 1) rfl rfl (d := 73) rfl (by decide) (by kernel_rfl) (fun _ _ _ h => h) (v := .int .i64 b.seq) (Yl.load1 rfl rfl (by kernel_rfl) (fun _ h => h.cell (i := 3) rfl rfl)) ?_; clear HF; intro a HF
              obtain ⟨gAk, rfl⟩ := own_some (HM.own (i := 0) rfl) (Nat.lt_of_le_of_lt (Nat.zero_le _) (show 0 < (x0 :: x1 :: vs).length from by simp))
              refine any_yl HF HS (i := 3) rfl rfl (d := 75) rfl (by decide) (by kernel_rfl) (fun _ _ _ h => h) (v := .pointer (some ⟨gAk, 0, none⟩)) (Yl.indexAddr (ad := ⟨gAk, 0, none⟩) (y := 0) (sz := 1) rfl rfl rfl (by simp) (by kernel_rfl)) ?_; clear HF; intro a HF
              refine any_yl HF HS (i := 4) rfl rfl (d := 76) rfl (by decide) (by kernel_rfl) (fun _ _ _ h => h) (v := .int .u64 (x0 : Int)) (Yl.load1 rfl rfl (by kernel_rfl) (fun _ h => h.rowOne (i := 0) rfl (k := 0) (map_at (F := U64) (k := 0) (x := x0) (rfl)))) ?_; clear HF; intro a HF
              refine any_pure HF (fun _ => HS) (i := 5) rfl rfl (d := 77) rfl (by decide) (by kernel_rfl) (fun _ _ _ h => h) (v := .int .i64 (IntKind.i64.wrap (x0 : Int))) (fun _ => Yl.pure (by kernel_rfl)) ?_; clear HF; intro a HF
              replace HF := HF.as (t := 77) (u := .int .i64 (x0 : Int)) rfl (by rw [IntWalk.i64_in _ (by omega)])
              refine any_pure HF (fun _ => HS) (i := 6) rfl rfl (d := 78) rfl (by decide) (by kernel_rfl) (fun _ _ _ h => h) (v := .int .i64 (IntKind.i64.wrap (b.seq + (x0 : Int)))) (fun _ => Yl.pure (by kernel_rfl)) ?_; clear HF; intro a HF
              replace HF := HF.as (t := 78) (u := .int .i64 (b.seq + (x0 : Int))) rfl (by rw [IntWalk.i64_in _ (by omega)])
              refine any_yl HF HS (i := 8) rfl rfl (d := 80) rfl (by decide) (by kernel_rfl) (fun _ _ _ h => h) (v := .int .i64 b.time) (Yl.load1 rfl rfl (by kernel_rfl) (fun _ h => h.cell (i := 3) rfl rfl)) ?_; clear HF; intro a HF
              refine any_yl HF HS (i := 10) rfl rfl (d := 82) rfl (by decide) (by kernel_rfl) (fun _ _ _ h => h) (v := .pointer (some ⟨gAk, 1, none⟩)) (Yl.indexAddr (ad := ⟨gAk, 0, none⟩) (y := 1) (sz := 1) rfl rfl rfl (by simp) (by kernel_rfl)) ?_; clear HF; intro a HF
              refine any_yl HF HS (i := 11) rfl rfl (d := 83) rfl (by decide) (by kernel_rfl) (fun _ _ _ h => h) (v := .int .u64 (x1 : Int)) (Yl.load1 rfl rfl (by kernel_rfl) (fun _ h => h.rowOne (i := 0) rfl (k := 1) (map_at (F := U64) (k := 1) (x := x1) (rfl)))) ?_; clear HF; intro a HF
              refine any_pure HF (fun _ => HS) (i := 12) rfl rfl (d := 84) rfl (by decide) (by kernel_rfl) (fun _ _ _ h => h) (v := .int .i64 (IntKind.i64.wrap (x1 : Int))) (fun _ => Yl.pure (by kernel_rfl)) ?_; clear HF; intro a HF
              replace HF := HF.as (t := 84) (u := .int .i64 (x1 : Int)) rfl (by rw [IntWalk.i64_in _ (by omega)])
              refine any_pure HF (fun _ => HS) (i := 13) rfl rfl (d := 85) rfl (by decide) (by kernel_rfl) (fun _ _ _ h => h) (v := .int .i64 (IntKind.i64.wrap (b.time + (x1 : Int)))) (fun _ => Yl.pure (by kernel_rfl)) ?_; clear HF; intro a HF
              replace HF := HF.as (t := 85) (u := .int .i64 (b.time + (x1 : Int))) rfl (by rw [IntWalk.i64_in _ (by omega)])
              refine any_yl HF HS (i := 16) rfl rfl (d := 88) rfl (by decide) (by kernel_rfl) (fun _ _ _ h => h) (v := .pointer (some ⟨gA, oA, none⟩)) (Yl.indexAddr (ad := ⟨gA, oA, none⟩) (y := 0) (sz := 1) rfl rfl rfl (by omega) (by kernel_rfl)) ?_; clear HF; intro a HF
              refine any_yl HF HS (i := 17) rfl rfl (d := 89) rfl (by decide) (by kernel_rfl) (fun _ _ _ h => h) (v := .int .u8 (kd : Int)) (Yl.load1 rfl rfl (by kernel_rfl) (fun _ h => (h.old hr).oneAt1 (k := 0) (map_at (F := B8) (k := 0) (x := kd) (rfl)))) ?_; clear HF; intro a HF
              refine any_yl HF HS (i := 18) rfl rfl (d := 90) rfl (by decide) (by kernel_rfl) (fun _ _ _ h => h) (v := .agg ((b.ev cpu kd x0 x1).cells)) ((Yl.build (vs := [(0, .int .i64 (b.seq + (x0 : Int))), (1, .int .i64 (b.time + (x1 : Int))), (2, .int .u8 (cpu : Int)), (3, .int .u8 (kd : Int))]) rfl (by kernel_rfl) (by kernel_rfl))) ?_; clear HF; intro a HF
              refine any_yl HF HS (i := 20) rfl rfl (d := 92) rfl (by decide) (by kernel_rfl) (fun _ _ _ h => h) (v := .slice (if ck = 2 then some ⟨gAk, 0, none⟩ else (some ⟨gAk, 0, none⟩ : Option Addr).map (·.add (2 * 1))) (((x0 :: x1 :: vs).length) - 2) (ck - 2)) (Yl.sliceFrom ei_u64 (j := 2) rfl rfl rfl (by simp)) ?_; clear HF; intro a HF
              refine any_all [21, 25] (by kernel_rfl) rfl ?_
              refine all_cons ?_ ?_
              · refine any_op HF (i := 21) rfl rfl ?_
                refine e_call HF (vs := [.agg ((b.ev cpu kd x0 x1).cells), .slice (if ck = 2 then some ⟨gAk, 0, none⟩ else (some ⟨gAk, 0, none⟩ : Option Addr).map (·.add (2 * 1))) (((x0 :: x1 :: vs).length) - 2) (ck - 2)]) rfl (by kernel_rfl) (by kernel_rfl) rfl (by decide) (rwith_any (b.ev cpu kd x0 x1) hev _ _ _ vs _ (by have h := (HM.rd (i := 0) rfl).from (k := 2) (by simp) hck; exact h) (fun y hy => hxs y (List.mem_cons_of_mem _ (List.mem_cons_of_mem _ hy)))) ?_
                rintro _ w93 ⟨rfl, hbw⟩
                refine ⟨_, rfl, ?_⟩
                replace HM := HM.call hbw
                clear HF; intro a HF
                refine keepS (HM.picks [0, 1, 2, 3] (by decide) rfl) (fun HS => ?_)
                refine any_pures HF (fun _ => HS) (fun _ _ d _ _ h => by cases d <;> exact h) [22, 23, 24] #[true, true, true, true, true, true, true, true, true, true, true, true, true, true, true, true, true, true, true, true, true, true, true, true, true, false, false, false] [(95, .int .i64 ((b.ev cpu kd x0 x1).withErr vs : Int)), (94, .agg (((b.ev cpu kd x0 x1).withEv vs).cells)), (71, .tuple #[.agg (((b.ev cpu kd x0 x1).withEv vs).cells), .int .i64 ((b.ev cpu kd x0 x1).withErr vs : Int)])] (by kernel_rfl) ?_; clear HF; intro a HF
                refine any_all [25] (by kernel_rfl) rfl ?_
                refine all_cons ?_ all_nil
                refine any_op HF (i := 25) rfl rfl ?_
                refine e_alloc HF HM (cs := #[.int .i64 0, .int .i64 0, .int .u8 0, .int .u8 0, .int .i64 0, .int .i64 0, .int .i64 0, .int .i64 0, .int .i64 0, .int .u64 0, .int .i64 0]) rfl (by kernel_rfl) rfl (by decide) ?_
                clear HF HM; intro a w15 g15 HF HM
                refine keepS (HM.picks [1, 2, 3, 4] (by decide) rfl) (fun HS => ?_)
                refine any_all [26] (by kernel_rfl) rfl ?_
                refine all_cons ?_ all_nil
                refine any_op HF (i := 26) rfl rfl ?_
                refine e_storeAll HF HM (i := 0) (cs := #[.int .i64 0, .int .i64 0, .int .u8 0, .int .u8 0, .int .i64 0, .int .i64 0, .int .i64 0, .int .i64 0, .int .i64 0, .int .u64 0, .int .i64 0]) (ds := ((b.ev cpu kd x0 x1).withEv vs).cells) rfl rfl rfl rfl ⟨(by kernel_rfl), (by kernel_rfl)⟩ rfl rfl (ev_one ((b.ev cpu kd x0 x1).withEv vs)) rfl ?_
                clear HM; intro w18_26 HM
                refine noS (by kernel_rfl) ?_
                refine any_pures HF (pastS (by kernel_rfl)) (fun _ _ d _ _ h => by cases d <;> exact h) [27] #[true, true, true, true, true, true, true, true, true, true, true, true, true, true, true, true, true, true, true, true, true, true, true, true, true, true, true, true] [(16, .int .i64 ((b.ev cpu kd x0 x1).withErr vs : Int))] (by kernel_rfl) ?_; clear HF; intro a HF
                refine any_done (by kernel_rfl) ?_
                replace HF := HF.sub (σ' := [(16, .int .i64 ((b.ev cpu kd x0 x1).withErr vs : Int)), (15, .pointer (some ⟨g15, 0, none⟩)), (69, .bool false), (40, .bool false), (11, .slice (some ⟨gAk, 0, none⟩) ((x0 :: x1 :: vs).length) ck), (10, .int .i64 ((1 + u : Nat) : Int)), (30, .bool false), (24, .bool false), (20, .bool false), (9, .pointer (some ⟨g9, 0, none⟩)), (8, .int .i64 0), (7, .int .i64 0), (6, .pointer (some ⟨g6, 0, none⟩)), (3, .pointer (some ⟨g3, 0, none⟩)), (2, .slice (some ⟨gA, oA, none⟩) n c)]) (by kernel_rfl)
                exact ⟨g15, HF.sub (by kernel_rfl), HM.picks [0, 1, 2, 3, 4] (by decide) rfl⟩
              refine all_cons ?_ all_nil
              refine any_op HF (i := 25) rfl rfl ?_
              refine e_alloc HF HM (cs := #[.int .i64 0, .int .i64 0, .int .u8 0, .int .u8 0, .int .i64 0, .int .i64 0, .int .i64 0, .int .i64 0, .int .i64 0, .int .u64 0, .int .i64 0]) rfl (by kernel_rfl) rfl (by decide) ?_
              clear HF HM; intro a w15 g15 HF HM
              refine keepS (HM.picks [1, 2, 3, 4] (by decide) rfl) (fun HS => ?_)
              refine any_all [21] (by kernel_rfl) rfl ?_
              refine all_cons ?_ all_nil
              refine any_op HF (i := 21) rfl rfl ?_
              refine e_call HF (vs := [.agg ((b.ev cpu kd x0 x1).cells), .slice (if ck = 2 then some ⟨gAk, 0, none⟩ else (some ⟨gAk, 0, none⟩ : Option Addr).map (·.add (2 * 1))) (((x0 :: x1 :: vs).length) - 2) (ck - 2)]) rfl (by kernel_rfl) (by kernel_rfl) rfl (by decide) (rwith_any (b.ev cpu kd x0 x1) hev _ _ _ vs _ (by have h := (HM.rd (i := 1) rfl).from (k := 2) (by simp) hck; exact h) (fun y hy => hxs y (List.mem_cons_of_mem _ (List.mem_cons_of_mem _ hy)))) ?_
              rintro _ w93 ⟨rfl, hbw⟩
              refine ⟨_, rfl, ?_⟩
              replace HM := HM.call hbw
              clear HF; intro a HF
              refine keepS (HM.picks [1, 2, 3, 4] (by decide) rfl) (fun HS => ?_)
              refine any_pures HF (fun _ => HS) (fun _ _ d _ _ h => by cases d <;> exact h) [22, 23, 24] #[true, true, true, true, true, true, true, true, true, true, true, true, true, true, true, true, true, true, true, true, true, true, true, true, true, true, false, false] [(95, .int .i64 ((b.ev cpu kd x0 x1).withErr vs : Int)), (94, .agg (((b.ev cpu kd x0 x1).withEv vs).cells)), (71, .tuple #[.agg (((b.ev cpu kd x0 x1).withEv vs).cells), .int .i64 ((b.ev cpu kd x0 x1).withErr vs : Int)])] (by kernel_rfl) ?_; clear HF; intro a HF
              refine any_all [26] (by kernel_rfl) rfl ?_
              refine all_cons ?_ all_nil
              refine any_op HF (i := 26) rfl rfl ?_
              refine e_storeAll HF HM (i := 0) (cs := #[.int .i64 0, .int .i64 0, .int .u8 0, .int .u8 0, .int .i64 0, .int .i64 0, .int .i64 0, .int .i64 0, .int .i64 0, .int .u64 0, .int .i64 0]) (ds := ((b.ev cpu kd x0 x1).withEv vs).cells) rfl rfl rfl rfl ⟨(by kernel_rfl), (by kernel_rfl)⟩ rfl rfl (ev_one ((b.ev cpu kd x0 x1).withEv vs)) rfl ?_
              clear HM; intro w18_26 HM
              refine noS (by kernel_rfl) ?_
              refine any_pures HF (pastS (by kernel_rfl)) (fun _ _ d _ _ h => by cases d <;> exact h) [27] #[true, true, true, true, true, true, true, true, true, true, true, true, true, true, true, true, true, true, true, true, true, true, true, true, true, true, true, true] [(16, .int .i64 ((b.ev cpu kd x0 x1).withErr vs : Int))] (by kernel_rfl) ?_; clear HF; intro a HF
              refine any_done (by kernel_rfl) ?_
              replace HF := HF.sub (σ' := [(16, .int .i64 ((b.ev cpu kd x0 x1).withErr vs : Int)), (15, .pointer (some ⟨g15, 0, none⟩)), (69, .bool false), (40, .bool false), (11, .slice (some ⟨gAk, 0, none⟩) ((x0 :: x1 :: vs).length) ck), (10, .int .i64 ((1 + u : Nat) : Int)), (30, .bool false), (24, .bool false), (20, .bool false), (9, .pointer (some ⟨g9, 0, none⟩)), (8, .int .i64 0), (7, .int .i64 0), (6, .pointer (some ⟨g6, 0, none⟩)), (3, .pointer (some ⟨g3, 0, none⟩)), (2, .slice (some ⟨gA, oA, none⟩) n c)]) (by kernel_rfl)
              exact ⟨g15, HF.sub (by kernel_rfl), HM.picks [0, 1, 2, 3, 4] (by decide) rfl⟩
            clear HF HM; rintro a w18 ⟨g15, HF, HM⟩
            refine wp_seq ?_
            refine wp_seq ?_
            refine from_start ?_
            refine from_pures HF 2 0 (j := 2) [(97, .bool ((((b.ev cpu kd x0 x1).withErr vs : Int) : Int) != (0 : Int))), (96, .int .i64 ((b.ev cpu kd x0 x1).withErr vs : Int))] (by kernel_rfl) rfl ?_; clear HF; intro a HF
            refine from_done rfl ?_
            replace HF := HF.sub (σ' := [(97, .bool ((((b.ev cpu kd x0 x1).withErr vs : Int) : Int) != (0 : Int))), (15, .pointer (some ⟨g15, 0, none⟩)), (69, .bool false), (40, .bool false), (11, .slice Ak ((x0 :: x1 :: vs).length) ck), (10, .int .i64 ((1 + u : Nat) : Int)), (30, .bool false), (24, .bool false), (20, .bool false), (9, .pointer (some ⟨g9, 0, none⟩)), (8, .int .i64 0), (7, .int .i64 0), (6, .pointer (some ⟨g6, 0, none⟩)), (3, .pointer (some ⟨g3, 0, none⟩)), (2, .slice (some ⟨gA, oA, none⟩) n c)]) (by kernel_rfl)
            rcases Bool.eq_false_or_eq_true ((((b.ev cpu kd x0 x1).withErr vs : Int) : Int) != (0 : Int)) with hb97 | hb97
            · have HF := HF.as (t := 97) (u := .bool true) rfl (by rw [hb97])
              have hwe : (b.ev cpu kd x0 x1).withErr vs ≠ 0 := by rw [bne_iff_ne] at hb97; omega
              refine cond_true HF rfl ?_
              refine wp_seq ?_
              refine from_start ?_
              refine from_yl (S := fun wS => Mem w wS _) HF HM (i := 0) rfl rfl (d := 98) rfl (by decide) (v := .agg Ev.zero.cells) (Yl.loadS rfl rfl ⟨(by kernel_rfl), (by kernel_rfl)⟩ rfl (fun _ h => range_of_block (h.blk (i := 2) rfl))) ?_; clear HF; intro a HF
              refine from_op HF (i := 1) rfl rfl ?_
              refine e_storeAll HF HM (i := 3) (cs := #[.int .i64 0, .int .i64 0, .int .u8 0, .int .u8 0, .int .i64 0, .int .i64 0, .int .i64 0, .int .i64 0, .int .i64 0, .int .u64 0, .int .i64 0]) (ds := Ev.zero.cells) rfl rfl rfl rfl ⟨(by kernel_rfl), (by kernel_rfl)⟩ rfl rfl (ev_one Ev.zero) rfl ?_
              clear HM; intro w20_1 HM
              refine from_pures HF 2 2 (j := 4) [(8, .int .i64 61), (7, .int .i64 0)] (by kernel_rfl) rfl ?_; clear HF; intro a HF
              refine from_done rfl ?_
              replace HF := HF.sub (σ' := [(8, .int .i64 61), (7, .int .i64 0), (97, .bool true), (15, .pointer (some ⟨g15, 0, none⟩)), (69, .bool false), (40, .bool false), (11, .slice Ak ((x0 :: x1 :: vs).length) ck), (10, .int .i64 ((1 + u : Nat) : Int)), (30, .bool false), (24, .bool false), (20, .bool false), (9, .pointer (some ⟨g9, 0, none⟩)), (6, .pointer (some ⟨g6, 0, none⟩)), (3, .pointer (some ⟨g3, 0, none⟩)), (2, .slice (some ⟨gA, oA, none⟩) n c)]) (by kernel_rfl)
              refine wp_ret ?_
              exact ret3 rfl HF (.cellS (i := 3) HF HM rfl rfl ⟨(by kernel_rfl), (by kernel_rfl)⟩ rfl) (.tmp HF rfl) (.tmp HF rfl) (⟨by rw [show takeR b cpu _ = _ from (takeR_read hrt hku hj hge).trans (takeEv_bad hwe)]; rfl, HM.below⟩)
            · have HF := HF.as (t := 97) (u := .bool false) rfl (by rw [hb97])
              have hwe : (b.ev cpu kd x0 x1).withErr vs = 0 := by rw [bne_eq_false_iff_eq] at hb97; omega
              refine cond_false HF rfl ?_
              refine wp_skip ?_
              refine wp_seq ?_
              refine from_start ?_
              refine from_yl (S := fun wS => Mem w wS _) HF HM (i := 0) rfl rfl (d := 99) rfl (by decide) (v := .agg (((b.ev cpu kd x0 x1).withEv vs).cells)) (Yl.loadS rfl rfl ⟨(by kernel_rfl), (by kernel_rfl)⟩ rfl (fun _ h => range_of_block (h.blk (i := 0) rfl))) ?_; clear HF; intro a HF
              refine from_pures HF 1 1 (j := 2) [(100, .int .i64 ((1 + u : Nat) : Int))] (by kernel_rfl) rfl ?_; clear HF; intro a HF
              refine from_op HF (i := 2) rfl rfl ?_
              refine e_storeAll HF HM (i := 3) (cs := #[.int .i64 0, .int .i64 0, .int .u8 0, .int .u8 0, .int .i64 0, .int .i64 0, .int .i64 0, .int .i64 0, .int .i64 0, .int .u64 0, .int .i64 0]) (ds := ((b.ev cpu kd x0 x1).withEv vs).cells) rfl rfl rfl rfl ⟨(by kernel_rfl), (by kernel_rfl)⟩ rfl rfl (ev_one ((b.ev cpu kd x0 x1).withEv vs)) rfl ?_
              clear HM; intro w21_2 HM
              refine from_pures HF 2 3 (j := 5) [(8, .int .i64 0), (7, .int .i64 ((1 + u : Nat) : Int))] (by kernel_rfl) rfl ?_; clear HF; intro a HF
              refine from_done rfl ?_
              replace HF := HF.sub (σ' := [(8, .int .i64 0), (7, .int .i64 ((1 + u : Nat) : Int)), (97, .bool false), (15, .pointer (some ⟨g15, 0, none⟩)), (69, .bool false), (40, .bool false), (11, .slice Ak ((x0 :: x1 :: vs).length) ck), (10, .int .i64 ((1 + u : Nat) : Int)), (30, .bool false), (24, .bool false), (20, .bool false), (9, .pointer (some ⟨g9, 0, none⟩)), (6, .pointer (some ⟨g6, 0, none⟩)), (3, .pointer (some ⟨g3, 0, none⟩)), (2, .slice (some ⟨gA, oA, none⟩) n c)]) (by kernel_rfl)
              refine wp_ret ?_
              exact ret3 rfl HF (.cellS (i := 3) HF HM rfl rfl ⟨(by kernel_rfl), (by kernel_rfl)⟩ rfl) (.tmp HF rfl) (.tmp HF rfl) (⟨by rw [show takeR b cpu _ = _ from (takeR_read hrt hku hj hge).trans (takeEv_good hwe)]; rfl, HM.below⟩)
end Go.Proofs.YtpekelggcmgnnaaDoor

/- quantumref07.Read is what codec.Read is. -/
set_option linter.all false
namespace Go.Proofs.YtpekelggcmgnnaaDoor
open Go.RowKit
theorem take07_is (b : Bs) (cpu : Nat) (hcpu : cpu < 256) (A : Option Addr) (n c : Nat) (l : List Nat) (w : World) (hr : Rd w w.heap.size 1 A n (l.map B8)) (hc : n ≤ c) (hl : ∀ b ∈ l, b < 256) (hn : n ≤ 140737488355328) (hln : l.length = n) {e : Ev} {L er : Nat} (h : takeR b cpu l = (e, L, er)) :
    Calls Tryd.prog 47 #[.agg b.cells, .int .u8 (cpu : Int), .slice A n c] w fun r w' => r = .returned (.tuple #[.agg e.cells, .int .i64 (L : Int), .int .i64 (er : Int)]) ∧ Below w.heap.size w w' :=
  (take07_any b cpu hcpu A n c l w hr hc hl hn hln).mono fun _ _ p => ⟨by rw [p.ret, h], p.below⟩
set_option maxRecDepth 100000 in
set_option maxHeartbeats 4000000 in
theorem read07_any (b : Bs) (cpu : Nat) (hcpu : cpu < 256) (m : Int) (hm : I64 m) (A : Option Addr) (n c : Nat) (l : List Nat) (w : World) (hr : Rd w w.heap.size 1 A n (l.map B8)) (hc : n ≤ c) (hl : ∀ b ∈ l, b < 256) (hn : n ≤ 1000000000) (hln : l.length = n) :
    Calls Tryd.prog 30 #[.agg b.cells, .int .u8 (cpu : Int), .int .i64 m, .slice A n c] w (EvsIs 64 w (readR b cpu m l)) := by
  refine calls_enter (vs := [.agg b.cells, .int .u8 (cpu : Int), .int .i64 m, .slice A n c]) Tryd.func30 rfl rfl (by kernel_rfl) (σ0 := [(0, .agg b.cells), (1, .int .u8 (cpu : Int)), (2, .int .i64 m), (3, .slice A n c)]) rfl ?_
  intro a HF
  have HM := Mem.start w
  refine wp_seq ?_
  refine from_start ?_
  refine from_op HF (i := 0) rfl rfl ?_
  refine e_box HF HM (cs := b.cells) rfl rfl rfl rfl (by decide) ?_
  clear HF HM; intro a w4 g4 HF HM
  refine from_pures HF 3 1 (j := 4) [(10, .int .i64 0), (9, .int .i64 0), (8, .slice none 0 0)] (by kernel_rfl) rfl ?_; clear HF; intro a HF
  refine from_done rfl ?_
  replace HF := HF.sub (σ' := [(10, .int .i64 0), (9, .int .i64 0), (8, .slice none 0 0), (4, .pointer (some ⟨g4, 0, none⟩)), (1, .int .u8 (cpu : Int)), (2, .int .i64 m), (3, .slice A n c)]) (by kernel_rfl)
  refine wp_seq ?_
  refine wp_seq ?_
  refine from_start ?_
  refine from_pures HF 2 0 (j := 2) [(17, .bool (decide ((m : Int) < (0 : Int)))), (16, .int .i64 m)] (by kernel_rfl) rfl ?_; clear HF; intro a HF
  refine from_done rfl ?_
  replace HF := HF.sub (σ' := [(17, .bool (decide ((m : Int) < (0 : Int)))), (10, .int .i64 0), (9, .int .i64 0), (8, .slice none 0 0), (4, .pointer (some ⟨g4, 0, none⟩)), (1, .int .u8 (cpu : Int)), (2, .int .i64 m), (3, .slice A n c)]) (by kernel_rfl)
  rcases Bool.eq_false_or_eq_true (decide ((m : Int) < (0 : Int))) with hb17 | hb17
  · have HF := HF.as (t := 17) (u := .bool true) rfl (by rw [hb17])
    have hm0 : m < 0 := by simpa using hb17
    refine cond_true HF rfl ?_
    refine wp_seq ?_
    refine from_start ?_
    refine from_pures HF 3 0 (j := 3) [(10, .int .i64 2), (9, .int .i64 0), (8, .slice none 0 0)] (by kernel_rfl) rfl ?_; clear HF; intro a HF
    refine from_done rfl ?_
    replace HF := HF.sub (σ' := [(10, .int .i64 2), (9, .int .i64 0), (8, .slice none 0 0), (17, .bool true), (4, .pointer (some ⟨g4, 0, none⟩)), (1, .int .u8 (cpu : Int)), (2, .int .i64 m), (3, .slice A n c)]) (by kernel_rfl)
    refine wp_ret ?_
    exact ret3 rfl HF (.tmp HF rfl) (.tmp HF rfl) (.tmp HF rfl) (evsIs_none (er := 2) (by unfold readR; rw [if_pos hm0]) HM.below)
  · have HF := HF.as (t := 17) (u := .bool false) rfl (by rw [hb17])
    have hm0 : ¬ m < 0 := by simpa using hb17
    refine cond_false HF rfl ?_
    refine wp_skip ?_
    refine wp_seq ?_
    refine wp_seq ?_
    refine from_start ?_
    refine from_yl (S := fun wS => Mem w wS _) HF HM (i := 0) rfl rfl (d := 18) rfl (by decide) (v := .agg b.cells) (Yl.loadS rfl rfl ⟨(by kernel_rfl), (by kernel_rfl)⟩ rfl (fun _ h => range_of_block (h.blk (i := 0) rfl))) ?_; clear HF; intro a HF
    refine from_op HF (i := 1) rfl rfl ?_
    refine e_call HF (vs := [.agg b.cells]) rfl (by kernel_rfl) (by kernel_rfl) rfl (by decide) (right07_any b _) ?_
    rintro _ w19 ⟨rfl, hbw⟩
    refine ⟨_, rfl, ?_⟩
    replace HM := HM.call hbw
    clear HF; intro a HF
    refine from_pures HF 1 2 (j := 3) [(20, .bool (!b.right))] (by kernel_rfl) rfl ?_; clear HF; intro a HF
    refine from_done rfl ?_
    replace HF := HF.sub (σ' := [(20, .bool (!b.right)), (17, .bool false), (10, .int .i64 0), (9, .int .i64 0), (8, .slice none 0 0), (4, .pointer (some ⟨g4, 0, none⟩)), (1, .int .u8 (cpu : Int)), (2, .int .i64 m), (3, .slice A n c)]) (by kernel_rfl)
    rcases Bool.eq_false_or_eq_true (!b.right) with hb20 | hb20
    · have HF := HF.as (t := 20) (u := .bool true) rfl (by rw [hb20])
      have hrf : b.right = false := by simpa using hb20
      refine cond_true HF rfl ?_
      refine wp_seq ?_
      refine from_start ?_
      refine from_pures HF 3 0 (j := 3) [(10, .int .i64 70), (9, .int .i64 0), (8, .slice none 0 0)] (by kernel_rfl) rfl ?_; clear HF; intro a HF
      refine from_done rfl ?_
      replace HF := HF.sub (σ' := [(10, .int .i64 70), (9, .int .i64 0), (8, .slice none 0 0), (20, .bool true), (17, .bool false), (4, .pointer (some ⟨g4, 0, none⟩)), (1, .int .u8 (cpu : Int)), (2, .int .i64 m), (3, .slice A n c)]) (by kernel_rfl)
      refine wp_ret ?_
      exact ret3 rfl HF (.tmp HF rfl) (.tmp HF rfl) (.tmp HF rfl) (evsIs_none (er := 70) (by unfold readR; rw [if_neg hm0, if_pos hrf]) HM.below)
    · have HF := HF.as (t := 20) (u := .bool false) rfl (by rw [hb20])
      have hrt : b.right = true := by simpa using hb20
      refine cond_false HF rfl ?_
      refine wp_skip ?_
      refine wp_seq ?_
      refine from_start ?_
      refine from_pures HF 1 0 (j := 1) [(11, .slice none 0 0)] (by kernel_rfl) rfl ?_; clear HF; intro a HF
      refine from_done rfl ?_
      replace HF := HF.sub (σ' := [(11, .slice none 0 0), (20, .bool false), (17, .bool false), (10, .int .i64 0), (9, .int .i64 0), (8, .slice none 0 0), (4, .pointer (some ⟨g4, 0, none⟩)), (1, .int .u8 (cpu : Int)), (2, .int .i64 m), (3, .slice A n c)]) (by kernel_rfl)
      replace HM := HM.nil 64 11
      refine wp_seq ?_
      refine from_start ?_
      refine from_pures HF 1 0 (j := 1) [(12, .int .i64 0)] (by kernel_rfl) rfl ?_; clear HF; intro a HF
      refine from_done rfl ?_
      refine wp_seq ?_
      refine wp_block ?_
      refine loop_nat (fun mS aS wS => ∃ (es : List Ev) (u : Nat) (bk : Bs) (Ak : Option Addr) (ck : Nat), (ReadJn b cpu m.toNat l es u bk) ∧ (es.length ≤ ck) ∧ mS = m.toNat - es.length ∧ Fr aS 62 [] [(12, .int .i64 (u : Int)), (11, .slice Ak es.length ck), (20, .bool false), (17, .bool false), (10, .int .i64 0), (9, .int .i64 0), (8, .slice none 0 0), (4, .pointer (some ⟨g4, 0, none⟩)), (1, .int .u8 (cpu : Int)), (2, .int .i64 m), (3, .slice A n c)] ∧ Mem w wS [.row (.slice Ak es.length ck) es.length (es.flatMap evL) 64 11, .blk g4 bk.cells 63]) (m := m.toNat - [].length) ⟨[], 0, b, none, 0, ReadJn.start _ _ _ _, Nat.le_refl _, rfl, HF.sub (by kernel_rfl), HM.picks [0, 1] (by decide) rfl⟩ ?_
      clear HF HM; rintro mS a w_ ⟨es, u, bk, Ak, ck, hat, hck, rfl, HF, HM⟩
      refine wp_seq ?_
      refine wp_seq ?_
      refine from_start ?_
      refine from_pures HF 1 0 (j := 1) [(21, .slice Ak es.length ck)] (by kernel_rfl) rfl ?_; clear HF; intro a HF
      refine from_yl (S := fun wS => Mem w wS _) HF HM (i := 1) rfl rfl (d := 22) rfl (by decide) (v := .int .i64 ((es.length : Nat) : Int)) (Yl.len rfl rfl (by kernel_rfl)) ?_; clear HF; intro a HF
      refine from_pures HF 2 2 (j := 4) [(24, .bool (decide ((((es.length : Nat) : Int) : Int) < (m : Int)))), (23, .int .i64 m)] (by kernel_rfl) rfl ?_; clear HF; intro a HF
      refine from_done rfl ?_
      replace HF := HF.sub (σ' := [(24, .bool (decide ((((es.length : Nat) : Int) : Int) < (m : Int)))), (12, .int .i64 (u : Int)), (11, .slice Ak es.length ck), (20, .bool false), (17, .bool false), (10, .int .i64 0), (9, .int .i64 0), (8, .slice none 0 0), (4, .pointer (some ⟨g4, 0, none⟩)), (1, .int .u8 (cpu : Int)), (2, .int .i64 m), (3, .slice A n c)]) (by kernel_rfl)
      rcases Bool.eq_false_or_eq_true (decide ((((es.length : Nat) : Int) : Int) < (m : Int))) with hb24 | hb24
      · have HF := HF.as (t := 24) (u := .bool true) rfl (by rw [hb24])
        have hlt : es.length < m.toNat := by simp at hb24; omega
        have hu := hat.fits
        rw [hln] at hu
        have hmo := hat.most
        obtain ⟨e, L, er, hq⟩ : ∃ e L er, takeR bk cpu (l.drop u) = (e, L, er) := ⟨_, _, _, rfl⟩
        have htl := (takeR_len bk cpu (l.drop u)).1
        rw [hq, List.length_drop, hln] at htl
        simp only at htl
        refine cond_true HF rfl ?_
        refine wp_skip ?_
        refine wp_block ?_
        refine cut_seq (fun aS wS => ∃ (g13 : Nat), Fr aS 62 [] [(15, .int .i64 (er : Int)), (14, .int .i64 (L : Int)), (13, .pointer (some ⟨g13, 0, none⟩)), (24, .bool true), (12, .int .i64 (u : Int)), (11, .slice Ak es.length ck), (20, .bool false), (17, .bool false), (10, .int .i64 0), (9, .int .i64 0), (8, .slice none 0 0), (4, .pointer (some ⟨g4, 0, none⟩)), (1, .int .u8 (cpu : Int)), (2, .int .i64 m), (3, .slice A n c)] ∧ Mem w wS [.blk g13 e.cells 64, .row (.slice Ak es.length ck) es.length (es.flatMap evL) 64 11, .blk g4 bk.cells 63]) ?_ ?_
        ·
          refine any_start (by kernel_rfl) (fun wS => Mem w wS [.row (.slice Ak es.length ck) es.length (es.flatMap evL) 64 11, .blk g4 bk.cells 63]) [11] ?_
          replace HM := HM.drew
          have HS := HM.picks (fs' := [.row (.slice Ak es.length ck) es.length (es.flatMap evL) 64 11, .blk g4 bk.cells 63]) [0, 1] (by decide) rfl
          refine any_pures HF (fun _ => HS) (fun _ _ d _ _ h => by cases d <;> exact h) [1, 2, 3] #[false, true, true, true, false, false, false, false, false, false, false, false, false, false] [(29, .int .i64 (u : Int)), (28, .slice A n c), (27, .int .u8 (cpu : Int))] (by kernel_rfl) ?_; clear HF; intro a HF
          refine any_yl HF HS (i := 0) rfl rfl (d := 26) rfl (by decide) (by kernel_rfl) (fun _ _ _ h => h) (v := .agg bk.cells) (Yl.loadS rfl rfl ⟨(by kernel_rfl), (by kernel_rfl)⟩ rfl (fun _ h => range_of_block (h.blk (i := 1) rfl))) ?_; clear HF; intro a HF
          refine any_yl HF HS (i := 4) rfl rfl (d := 30) rfl (by decide) (by kernel_rfl) (fun _ _ _ h => h) (v := .slice (if c = u then A else A.map (·.add (u * 1))) (n - u) (c - u)) (Yl.sliceFrom ei_u8 (j := u) rfl rfl rfl (hu)) ?_; clear HF; intro a HF
          refine any_all [5, 10] (by kernel_rfl) rfl ?_
          refine all_cons ?_ ?_
          · refine any_op HF (i := 5) rfl rfl ?_
            refine e_call HF (vs := [.agg bk.cells, .int .u8 (cpu : Int), .slice (if c = u then A else A.map (·.add (u * 1))) (n - u) (c - u)]) rfl (by kernel_rfl) (by kernel_rfl) rfl (by decide) (take07_is bk cpu hcpu _ (n - u) (c - u) (l.drop u) _ (Rd.fromB8 (HM.old hr) (k := u) hu hc) (by omega) (fun y hy => hl y (List.mem_of_mem_drop hy)) (by omega) (by rw [List.length_drop]; omega) hq) ?_
            rintro _ w31 ⟨rfl, hbw⟩
            refine ⟨_, rfl, ?_⟩
            replace HM := HM.call hbw
            clear HF; intro a HF
            refine keepS (HM.picks [0, 1] (by decide) rfl) (fun HS => ?_)
            refine any_pures HF (fun _ => HS) (fun _ _ d _ _ h => by cases d <;> exact h) [6, 7, 8, 9] #[true, true, true, true, true, true, true, true, true, true, false, false, false, false] [(34, .int .i64 (er : Int)), (33, .int .i64 (L : Int)), (32, .agg e.cells), (25, .tuple #[.agg e.cells, .int .i64 (L : Int), .int .i64 (er : Int)])] (by kernel_rfl) ?_; clear HF; intro a HF
            refine any_all [10] (by kernel_rfl) rfl ?_
            refine all_cons ?_ all_nil
            refine any_op HF (i := 10) rfl rfl ?_
            refine e_alloc HF HM (cs := #[.int .i64 0, .int .i64 0, .int .u8 0, .int .u8 0, .int .i64 0, .int .i64 0, .int .i64 0, .int .i64 0, .int .i64 0, .int .u64 0, .int .i64 0]) rfl (by kernel_rfl) rfl (by decide) ?_
            clear HF HM; intro a w13 g13 HF HM
            refine keepS (HM.picks [1, 2] (by decide) rfl) (fun HS => ?_)
            refine any_all [11] (by kernel_rfl) rfl ?_
            refine all_cons ?_ all_nil
            refine any_op HF (i := 11) rfl rfl ?_
            refine e_storeAll HF HM (i := 0) (cs := #[.int .i64 0, .int .i64 0, .int .u8 0, .int .u8 0, .int .i64 0, .int .i64 0, .int .i64 0, .int .i64 0, .int .i64 0, .int .u64 0, .int .i64 0]) (ds := e.cells) rfl rfl rfl rfl ⟨(by kernel_rfl), (by kernel_rfl)⟩ rfl rfl (ev_one e) rfl ?_
            clear HM; intro w8_11 HM
            refine noS (by kernel_rfl) ?_
            refine any_pures HF (pastS (by kernel_rfl)) (fun _ _ d _ _ h => by cases d <;> exact h) [12, 13] #[true, true, true, true, true, true, true, true, true, true, true, true, true, true] [(15, .int .i64 (er : Int)), (14, .int .i64 (L : Int))] (by kernel_rfl) ?_; clear HF; intro a HF
            refine any_done (by kernel_rfl) ?_
            replace HF := HF.sub (σ' := [(15, .int .i64 (er : Int)), (14, .int .i64 (L : Int)), (13, .pointer (some ⟨g13, 0, none⟩)), (24, .bool true), (12, .int .i64 (u : Int)), (11, .slice Ak es.length ck), (20, .bool false), (17, .bool false), (10, .int .i64 0), (9, .int .i64 0), (8, .slice none 0 0), (4, .pointer (some ⟨g4, 0, none⟩)), (1, .int .u8 (cpu : Int)), (2, .int .i64 m), (3, .slice A n c)]) (by kernel_rfl)
            exact ⟨g13, HF.sub (by kernel_rfl), HM.picks [0, 1, 2] (by decide) rfl⟩
          refine all_cons ?_ all_nil
          refine any_op HF (i := 10) rfl rfl ?_
          refine e_alloc HF HM (cs := #[.int .i64 0, .int .i64 0, .int .u8 0, .int .u8 0, .int .i64 0, .int .i64 0, .int .i64 0, .int .i64 0, .int .i64 0, .int .u64 0, .int .i64 0]) rfl (by kernel_rfl) rfl (by decide) ?_
          clear HF HM; intro a w13 g13 HF HM
          refine keepS (HM.picks [1, 2] (by decide) rfl) (fun HS => ?_)
          refine any_all [5] (by kernel_rfl) rfl ?_
          refine all_cons ?_ all_nil
          refine any_op HF (i := 5) rfl rfl ?_
          refine e_call HF (vs := [.agg bk.cells, .int .u8 (cpu : Int), .slice (if c = u then A else A.map (·.add (u * 1))) (n - u) (c - u)]) rfl (by kernel_rfl) (by kernel_rfl) rfl (by decide) (take07_is bk cpu hcpu _ (n - u) (c - u) (l.drop u) _ (Rd.fromB8 (HM.old hr) (k := u) hu hc) (by omega) (fun y hy => hl y (List.mem_of_mem_drop hy)) (by omega) (by rw [List.length_drop]; omega) hq) ?_
          rintro _ w31 ⟨rfl, hbw⟩
          refine ⟨_, rfl, ?_⟩
          replace HM := HM.call hbw
          clear HF; intro a HF
          refine keepS (HM.picks [1, 2] (by decide) rfl) (fun HS => ?_)
          refine any_pures HF (fun _ => HS) (fun _ _ d _ _ h => by cases d <;> exact h) [6, 7, 8, 9] #[true, true, true, true, true, true, true, true, true, true, true, false, false, false] [(34, .int .i64 (er : Int)), (33, .int .i64 (L : Int)), (32, .agg e.cells), (25, .tuple #[.agg e.cells, .int .i64 (L : Int), .int .i64 (er : Int)])] (by kernel_rfl) ?_; clear HF; intro a HF
          refine any_all [11] (by kernel_rfl) rfl ?_
          refine all_cons ?_ all_nil
          refine any_op HF (i := 11) rfl rfl ?_
          refine e_storeAll HF HM (i := 0) (cs := #[.int .i64 0, .int .i64 0, .int .u8 0, .int .u8 0, .int .i64 0, .int .i64 0, .int .i64 0, .int .i64 0, .int .i64 0, .int .u64 0, .int .i64 0]) (ds := e.cells) rfl rfl rfl rfl ⟨(by kernel_rfl), (by kernel_rfl)⟩ rfl rfl (ev_one e) rfl ?_
          clear HM; intro w8_11 HM
          refine noS (by kernel_rfl) ?_
          refine any_pures HF (pastS (by kernel_rfl)) (fun _ _ d _ _ h => by cases d <;> exact h) [12, 13] #[true, true, true, true, true, true, true, true, true, true, true, true, true, true] [(15, .int .i64 (er : Int)), (14, .int .i64 (L : Int))] (by kernel_rfl) ?_; clear HF; intro a HF
          refine any_done (by kernel_rfl) ?_
          replace HF := HF.sub (σ' := [(15, .int .i64 (er : Int)), (14, .int .i64 (L : Int)), (13, .pointer (some ⟨g13, 0, none⟩)), (24, .bool true), (12, .int .i64 (u : Int)), (11, .slice Ak es.length ck), (20, .bool false), (17, .bool false), (10, .int .i64 0), (9, .int .i64 0), (8, .slice none 0 0), (4, .pointer (some ⟨g4, 0, none⟩)), (1, .int .u8 (cpu : Int)), (2, .int .i64 m), (3, .slice A n c)]) (by kernel_rfl)
          exact ⟨g13, HF.sub (by kernel_rfl), HM.picks [0, 1, 2] (by decide) rfl⟩
        clear HF HM; rintro a w8 ⟨g13, HF, HM⟩
        refine wp_seq ?_
        refine wp_seq ?_
        refine from_start ?_
        refine from_pures HF 2 0 (j := 2) [(36, .bool (((er : Int) : Int) != (0 : Int))), (35, .int .i64 (er : Int))] (by kernel_rfl) rfl ?_; clear HF; intro a HF
        refine from_done rfl ?_
        replace HF := HF.sub (σ' := [(36, .bool (((er : Int) : Int) != (0 : Int))), (15, .int .i64 (er : Int)), (14, .int .i64 (L : Int)), (13, .pointer (some ⟨g13, 0, none⟩)), (24, .bool true), (12, .int .i64 (u : Int)), (11, .slice Ak es.length ck), (20, .bool false), (17, .bool false), (10, .int .i64 0), (9, .int .i64 0), (8, .slice none 0 0), (4, .pointer (some ⟨g4, 0, none⟩)), (1, .int .u8 (cpu : Int)), (2, .int .i64 m), (3, .slice A n c)]) (by kernel_rfl)
        rcases Bool.eq_false_or_eq_true (((er : Int) : Int) != (0 : Int)) with hb36 | hb36
        · have HF := HF.as (t := 36) (u := .bool true) rfl (by rw [hb36])
          have her : er ≠ 0 := by rw [bne_iff_ne] at hb36; omega
          refine cond_true HF rfl ?_
          refine wp_seq ?_
          refine from_start ?_
          refine from_pures HF 4 0 (j := 4) [(10, .int .i64 (er : Int)), (9, .int .i64 0), (8, .slice none 0 0), (37, .int .i64 (er : Int))] (by kernel_rfl) rfl ?_; clear HF; intro a HF
          refine from_done rfl ?_
          replace HF := HF.sub (σ' := [(10, .int .i64 (er : Int)), (9, .int .i64 0), (8, .slice none 0 0), (36, .bool true), (15, .int .i64 (er : Int)), (14, .int .i64 (L : Int)), (13, .pointer (some ⟨g13, 0, none⟩)), (24, .bool true), (12, .int .i64 (u : Int)), (11, .slice Ak es.length ck), (20, .bool false), (17, .bool false), (4, .pointer (some ⟨g4, 0, none⟩)), (1, .int .u8 (cpu : Int)), (2, .int .i64 m), (3, .slice A n c)]) (by kernel_rfl)
          refine wp_ret ?_
          exact ret3 rfl HF (.tmp HF rfl) (.tmp HF rfl) (.tmp HF rfl) (evsIs_none (er := er) ((readR_go hm0 hrt).trans (hat.bad hlt hq her)) HM.below)
        · have HF := HF.as (t := 36) (u := .bool false) rfl (by rw [hb36])
          have her0 : er = 0 := by rw [bne_eq_false_iff_eq] at hb36; omega
          have hq0 : takeR bk cpu (l.drop u) = (e, L, 0) := by rw [hq, her0]
          refine cond_false HF rfl ?_
          refine wp_skip ?_
          refine wp_seq ?_
          refine cut_seq (fun aS wS => Fr aS 62 [] [(47, .bool (es.getLast?.any (fun q => decide (e.seq = q.seq)))), (36, .bool false), (15, .int .i64 (er : Int)), (14, .int .i64 (L : Int)), (13, .pointer (some ⟨g13, 0, none⟩)), (24, .bool true), (12, .int .i64 (u : Int)), (11, .slice Ak es.length ck), (20, .bool false), (17, .bool false), (10, .int .i64 0), (9, .int .i64 0), (8, .slice none 0 0), (4, .pointer (some ⟨g4, 0, none⟩)), (1, .int .u8 (cpu : Int)), (2, .int .i64 m), (3, .slice A n c)] ∧ Mem w wS [.blk g13 e.cells 64, .row (.slice Ak es.length ck) es.length (es.flatMap evL) 64 11, .blk g4 bk.cells 63]) ?_ ?_
          ·
            refine from_start ?_
            refine from_pures HF 1 0 (j := 1) [(38, .slice Ak es.length ck)] (by kernel_rfl) rfl ?_; clear HF; intro a HF
            refine from_yl (S := fun wS => Mem w wS _) HF HM (i := 1) rfl rfl (d := 39) rfl (by decide) (v := .int .i64 ((es.length : Nat) : Int)) (Yl.len rfl rfl (by kernel_rfl)) ?_; clear HF; intro a HF
            refine from_pures HF 2 2 (j := 4) [(41, .bool (decide ((((es.length : Nat) : Int) : Int) > (0 : Int)))), (40, .bool (decide ((((es.length : Nat) : Int) : Int) > (0 : Int))))] (by kernel_rfl) rfl ?_; clear HF; intro a HF
            rcases Bool.eq_false_or_eq_true (decide ((((es.length : Nat) : Int) : Int) > (0 : Int))) with hb41 | hb41
            · have HF := HF.as (t := 41) (u := .bool true) rfl (by rw [hb41])
              obtain ⟨q, hls⟩ : ∃ q, es.getLast? = some q := by cases es with
                | nil => simp at hb41
                | cons a r => exact ⟨_, List.getLast?_cons⟩
              have hbq := hat.last q hls
              refine from_pures HF 1 4 (j := 5) [(42, .pointer (some ⟨g13, 0, none⟩))] (by kernel_rfl) rfl ?_; clear HF; intro a HF
              refine from_yl (S := fun wS => Mem w wS _) HF HM (i := 5) rfl rfl (d := 43) rfl (by decide) (v := .int .i64 e.seq) (Yl.load1 rfl rfl (by kernel_rfl) (fun _ h => h.cell (i := 0) rfl rfl)) ?_; clear HF; intro a HF
              refine from_pures HF 1 6 (j := 7) [(44, .pointer (some ⟨g4, 0, none⟩))] (by kernel_rfl) rfl ?_; clear HF; intro a HF
              refine from_yl (S := fun wS => Mem w wS _) HF HM (i := 7) rfl rfl (d := 45) rfl (by decide) (v := .int .i64 bk.seq) (Yl.load1 rfl rfl (by kernel_rfl) (fun _ h => h.cell (i := 2) rfl rfl)) ?_; clear HF; intro a HF
              refine from_pures HF 2 8 (j := 10) [(47, .bool ((e.seq : Int) == (bk.seq : Int))), (46, .bool ((e.seq : Int) == (bk.seq : Int)))] (by kernel_rfl) rfl ?_; clear HF; intro a HF
              refine from_done rfl ?_
              replace HF := HF.sub (σ' := [(47, .bool ((e.seq : Int) == (bk.seq : Int))), (36, .bool false), (15, .int .i64 (er : Int)), (14, .int .i64 (L : Int)), (13, .pointer (some ⟨g13, 0, none⟩)), (24, .bool true), (12, .int .i64 (u : Int)), (11, .slice Ak es.length ck), (20, .bool false), (17, .bool false), (10, .int .i64 0), (9, .int .i64 0), (8, .slice none 0 0), (4, .pointer (some ⟨g4, 0, none⟩)), (1, .int .u8 (cpu : Int)), (2, .int .i64 m), (3, .slice A n c)]) (by kernel_rfl)
              have HF := HF.as (t := 47) (u := .bool (es.getLast?.any (fun q => decide (e.seq = q.seq)))) rfl (congrArg Value.bool (by rw [hls]; rw [hbq]; rw [Bool.eq_iff_iff]; simp [Ev.at]))
              exact ⟨HF.sub (by kernel_rfl), HM.picks [0, 1, 2] (by decide) rfl⟩
            · have HF := HF.as (t := 41) (u := .bool false) rfl (by rw [hb41])
              have hls : es.getLast? = none := by rw [List.length_eq_zero_iff.1 (show es.length = 0 by have := of_decide_eq_false hb41; omega)]; rfl
              refine from_pures HF 6 4 (j := 10) [(47, .bool false), (46, undef), (45, undef), (44, undef), (43, undef), (42, undef)] (by kernel_rfl) rfl ?_; clear HF; intro a HF
              refine from_done rfl ?_
              replace HF := HF.sub (σ' := [(47, .bool false), (36, .bool false), (15, .int .i64 (er : Int)), (14, .int .i64 (L : Int)), (13, .pointer (some ⟨g13, 0, none⟩)), (24, .bool true), (12, .int .i64 (u : Int)), (11, .slice Ak es.length ck), (20, .bool false), (17, .bool false), (10, .int .i64 0), (9, .int .i64 0), (8, .slice none 0 0), (4, .pointer (some ⟨g4, 0, none⟩)), (1, .int .u8 (cpu : Int)), (2, .int .i64 m), (3, .slice A n c)]) (by kernel_rfl)
              have HF := HF.as (t := 47) (u := .bool (es.getLast?.any (fun q => decide (e.seq = q.seq)))) rfl (congrArg Value.bool (by rw [hls]; rfl))
              exact ⟨HF.sub (by kernel_rfl), HM.picks [0, 1, 2] (by decide) rfl⟩
          clear HF HM; rintro a w11 ⟨HF, HM⟩
          rcases Bool.eq_false_or_eq_true (es.getLast?.any (fun q => decide (e.seq = q.seq))) with hb47 | hb47
          · have HF := HF.as (t := 47) (u := .bool true) rfl (by rw [hb47])
            refine cond_true HF rfl ?_
            refine wp_seq ?_
            refine from_start ?_
            refine from_pures HF 3 0 (j := 3) [(10, .int .i64 71), (9, .int .i64 0), (8, .slice none 0 0)] (by kernel_rfl) rfl ?_; clear HF; intro a HF
            refine from_done rfl ?_
            replace HF := HF.sub (σ' := [(10, .int .i64 71), (9, .int .i64 0), (8, .slice none 0 0), (47, .bool true), (36, .bool false), (15, .int .i64 (er : Int)), (14, .int .i64 (L : Int)), (13, .pointer (some ⟨g13, 0, none⟩)), (24, .bool true), (12, .int .i64 (u : Int)), (11, .slice Ak es.length ck), (20, .bool false), (17, .bool false), (4, .pointer (some ⟨g4, 0, none⟩)), (1, .int .u8 (cpu : Int)), (2, .int .i64 m), (3, .slice A n c)]) (by kernel_rfl)
            refine wp_ret ?_
            exact ret3 rfl HF (.tmp HF rfl) (.tmp HF rfl) (.tmp HF rfl) (evsIs_none (er := 71) ((readR_go hm0 hrt).trans (hat.same hlt hq0 hb47)) HM.below)
          · have HF := HF.as (t := 47) (u := .bool false) rfl (by rw [hb47])
            have hnx := hat.next hlt hq0 hb47
            refine cond_false HF rfl ?_
            refine wp_skip ?_
            refine wp_seq ?_
            refine from_start ?_
            refine from_pures HF 1 0 (j := 1) [(48, .slice Ak es.length ck)] (by kernel_rfl) rfl ?_; clear HF; intro a HF
            refine from_yl (S := fun wS => Mem w wS _) HF HM (i := 1) rfl rfl (d := 49) rfl (by decide) (v := .agg e.cells) (Yl.loadS rfl rfl ⟨(by kernel_rfl), (by kernel_rfl)⟩ rfl (fun _ h => range_of_block (h.blk (i := 0) rfl))) ?_; clear HF; intro a HF
            refine from_op HF (i := 2) rfl rfl ?_
            refine e_slice HF HM (vs := [(0, .agg e.cells)]) (cs := e.cells) rfl ei_rev (by decide) rfl (by kernel_rfl) rfl (by decide) ?_
            clear HF HM; intro a w50 g50 HF HM
            refine from_op HF (i := 3) rfl rfl ?_
            refine e_append HF HM (i := 2) rfl ei_rev rfl rfl rfl (news := (evL e)) (HM.rdBlk (i := 0) (n := 1) (size := 11) rfl rfl) (ev_one e) (by omega) (by omega) rfl (by decide) ?_
            clear HF HM; intro a w51 A51 c51 HF HM hc51
            refine from_pures HF 1 4 (j := 5) [(11, .slice A51 (es.length + 1) c51)] (by kernel_rfl) rfl ?_; clear HF; intro a HF
            refine from_done rfl ?_
            replace HF := HF.sub (σ' := [(11, .slice A51 (es.length + 1) c51), (47, .bool false), (36, .bool false), (15, .int .i64 (er : Int)), (14, .int .i64 (L : Int)), (13, .pointer (some ⟨g13, 0, none⟩)), (24, .bool true), (12, .int .i64 (u : Int)), (20, .bool false), (17, .bool false), (10, .int .i64 0), (9, .int .i64 0), (8, .slice none 0 0), (4, .pointer (some ⟨g4, 0, none⟩)), (1, .int .u8 (cpu : Int)), (2, .int .i64 m), (3, .slice A n c)]) (by kernel_rfl)
            replace HM := HM.picks (fs' := [.blk g13 e.cells 64, .row (.slice A51 (es.length + 1) c51) (es.length + 1) ((es.flatMap evL) ++ (evL e)) 64 11, .blk g4 bk.cells 63]) [1, 2, 3] (by decide) rfl
            have hnA51 : es.length + 1 = (es ++ [e]).length := by simp
            replace HM := HM.reRow (i := 1) (ys := (es ++ [e]).flatMap evL) rfl hnA51 (by simp)
            rw [hnA51] at hc51
            replace HF := HF.as (t := 11) (u := .slice A51 ((es ++ [e]).length) c51) rfl (by rw [hnA51])
            refine wp_seq ?_
            refine from_start ?_
            refine from_pures HF 3 0 (j := 3) [(54, .int .i64 (IntKind.i64.wrap ((u : Int) + (L : Int)))), (53, .int .i64 (L : Int)), (52, .int .i64 (u : Int))] (by kernel_rfl) rfl ?_; clear HF; intro a HF
            replace HF := HF.as (t := 54) (u := .int .i64 ((u + L : Nat) : Int)) rfl (by rw [IntWalk.i64_in _ (by omega)]; simp)
            refine from_pures HF 1 3 (j := 4) [(12, .int .i64 ((u + L : Nat) : Int))] (by kernel_rfl) rfl ?_; clear HF; intro a HF
            refine from_done rfl ?_
            replace HF := HF.sub (σ' := [(12, .int .i64 ((u + L : Nat) : Int)), (11, .slice A51 ((es ++ [e]).length) c51), (47, .bool false), (36, .bool false), (15, .int .i64 (er : Int)), (14, .int .i64 (L : Int)), (13, .pointer (some ⟨g13, 0, none⟩)), (24, .bool true), (20, .bool false), (17, .bool false), (10, .int .i64 0), (9, .int .i64 0), (8, .slice none 0 0), (4, .pointer (some ⟨g4, 0, none⟩)), (1, .int .u8 (cpu : Int)), (2, .int .i64 m), (3, .slice A n c)]) (by kernel_rfl)
            refine from_start ?_
            refine from_pures HF 1 0 (j := 1) [(55, .pointer (some ⟨g13, 0, none⟩))] (by kernel_rfl) rfl ?_; clear HF; intro a HF
            refine from_yl (S := fun wS => Mem w wS _) HF HM (i := 1) rfl rfl (d := 56) rfl (by decide) (v := .int .i64 e.seq) (Yl.load1 rfl rfl (by kernel_rfl) (fun _ h => h.cell (i := 0) rfl rfl)) ?_; clear HF; intro a HF
            refine from_pures HF 1 2 (j := 3) [(57, .pointer (some ⟨g13, 1, none⟩))] (by kernel_rfl) rfl ?_; clear HF; intro a HF
            refine from_yl (S := fun wS => Mem w wS _) HF HM (i := 3) rfl rfl (d := 58) rfl (by decide) (v := .int .i64 e.time) (Yl.load1 rfl rfl (by kernel_rfl) (fun _ h => h.cell (i := 0) rfl rfl)) ?_; clear HF; intro a HF
            refine from_yl (S := fun wS => Mem w wS _) HF HM (i := 4) rfl rfl (d := 59) rfl (by decide) (v := .agg e.at.cells) ((Yl.build (vs := [(0, .int .i64 e.seq), (1, .int .i64 e.time)]) rfl (by kernel_rfl) (by kernel_rfl))) ?_; clear HF; intro a HF
            refine from_op HF (i := 5) rfl rfl ?_
            refine e_storeAll HF HM (i := 2) (cs := bk.cells) (ds := e.at.cells) rfl rfl rfl rfl ⟨(by kernel_rfl), (by kernel_rfl)⟩ rfl rfl (bs_one e.at) rfl ?_
            clear HM; intro w15_5 HM
            refine from_done rfl ?_
            replace HF := HF.sub (σ' := [(12, .int .i64 ((u + L : Nat) : Int)), (11, .slice A51 ((es ++ [e]).length) c51), (47, .bool false), (36, .bool false), (15, .int .i64 (er : Int)), (14, .int .i64 (L : Int)), (13, .pointer (some ⟨g13, 0, none⟩)), (24, .bool true), (20, .bool false), (17, .bool false), (10, .int .i64 0), (9, .int .i64 0), (8, .slice none 0 0), (4, .pointer (some ⟨g4, 0, none⟩)), (1, .int .u8 (cpu : Int)), (2, .int .i64 m), (3, .slice A n c)]) (by kernel_rfl)
            exact ⟨_, (by simp; omega), es ++ [e], u + L, e.at, A51, c51, hnx, hc51, rfl, HF.sub (by kernel_rfl), HM.picks [1, 2] (by decide) rfl⟩
      · have HF := HF.as (t := 24) (u := .bool false) rfl (by rw [hb24])
        have hge : m.toNat ≤ es.length := by simp at hb24; omega
        refine cond_false HF rfl ?_
        refine wp_exit ?_
        refine wp_seq ?_
        refine from_start ?_
        refine from_pures HF 5 0 (j := 5) [(10, .int .i64 0), (9, .int .i64 (u : Int)), (8, .slice Ak es.length ck), (61, .int .i64 (u : Int)), (60, .slice Ak es.length ck)] (by kernel_rfl) rfl ?_; clear HF; intro a HF
        refine from_done rfl ?_
        replace HF := HF.sub (σ' := [(10, .int .i64 0), (9, .int .i64 (u : Int)), (8, .slice Ak es.length ck), (24, .bool false), (12, .int .i64 (u : Int)), (11, .slice Ak es.length ck), (20, .bool false), (17, .bool false), (4, .pointer (some ⟨g4, 0, none⟩)), (1, .int .u8 (cpu : Int)), (2, .int .i64 m), (3, .slice A n c)]) (by kernel_rfl)
        refine wp_ret ?_
        exact ret3 rfl HF (.tmp HF rfl) (.tmp HF rfl) (.tmp HF rfl) (evsIs_row ((readR_go hm0 hrt).trans (hat.done hge)) (HM.own (i := 0) rfl) hck HM.below)
end Go.Proofs.YtpekelggcmgnnaaDoor

/- quantumlaw07: turned, same. -/
set_option linter.all false
namespace Go.Proofs.YtpekelggcmgnnaaDoor
open Go.RowKit
def TurnIs (w : World) (l : List Ev) (r : Ending) (w' : World) : Prop :=
  (∃ A c, r = .returned (.slice A l.length c) ∧ w'.ownsRow w.heap.size 64 11 (.slice A l.length c) l.length (l.flatMap evL) ∧ l.length ≤ c) ∧ Below w.heap.size w w'
set_option maxRecDepth 100000 in
set_option maxHeartbeats 4000000 in
theorem turned_any (A : Option Addr) (n c : Nat) (l : List Ev) (w : World) (hr : Rd w w.heap.size 11 A n (l.flatMap evL)) (hn : n ≤ 1000000000) (hln : l.length = n) :
    Calls Tryd.prog 28 #[.slice A n c] w (TurnIs w l) := by
  refine calls_enter (vs := [.slice A n c]) Tryd.func28 rfl rfl (by kernel_rfl) (σ0 := [(0, .slice A n c)]) rfl ?_
  intro a HF
  have HM := Mem.start w
  refine wp_seq ?_
  refine from_start ?_
  refine from_pures HF 1 0 (j := 1) [(2, .slice none 0 0)] (by kernel_rfl) rfl ?_; clear HF; intro a HF
  refine from_done rfl ?_
  refine wp_seq ?_
  refine from_start ?_
  refine from_pures HF 1 0 (j := 1) [(3, .slice none 0 0)] (by kernel_rfl) rfl ?_; clear HF; intro a HF
  refine from_done rfl ?_
  replace HM := HM.nil 64 11
  refine wp_seq ?_
  refine wp_seq ?_
  refine from_start ?_
  refine from_pures HF 1 0 (j := 1) [(6, .slice A n c)] (by kernel_rfl) rfl ?_; clear HF; intro a HF
  refine from_yl (S := fun wS => Mem w wS _) HF HM (i := 1) rfl rfl (d := 7) rfl (by decide) (v := .int .i64 ((n : Nat) : Int)) (Yl.len rfl rfl (by kernel_rfl)) ?_; clear HF; intro a HF
  refine from_pures HF 1 2 (j := 3) [(8, .int .i64 0)] (by kernel_rfl) rfl ?_; clear HF; intro a HF
  refine from_done rfl ?_
  replace HF := HF.sub (σ' := [(8, .int .i64 0), (7, .int .i64 ((n : Nat) : Int)), (6, .slice A n c), (3, .slice none 0 0), (2, .slice none 0 0)]) (by kernel_rfl)
  refine wp_block ?_
  refine loop_nat (fun mS aS wS => ∃ (k : Nat) (Ak : Option Addr) (ck : Nat), (k ≤ n) ∧ (k ≤ ck) ∧ mS = n - k ∧ Fr aS 18 [] [(8, .int .i64 (k : Int)), (7, .int .i64 ((n : Nat) : Int)), (6, .slice A n c), (3, .slice Ak k ck), (2, .slice none 0 0)] ∧ Mem w wS [.row (.slice Ak k ck) k ((l.take k).flatMap evL) 64 11]) (m := n - 0) ⟨0, none, 0, Nat.zero_le _, Nat.le_refl _, rfl, HF.sub (by kernel_rfl), HM.picks [0] (by decide) rfl⟩ ?_
  clear HF HM; rintro mS a w_ ⟨k, Ak, ck, hk, hck, rfl, HF, HM⟩
  refine wp_seq ?_
  refine from_start ?_
  refine from_pures HF 1 0 (j := 1) [(9, .bool (decide (((k : Int) : Int) < (((n : Nat) : Int) : Int))))] (by kernel_rfl) rfl ?_; clear HF; intro a HF
  refine from_done rfl ?_
  refine wp_seq ?_
  rcases Bool.eq_false_or_eq_true (decide (((k : Int) : Int) < (((n : Nat) : Int) : Int))) with hb9 | hb9
  · have HF := HF.as (t := 9) (u := .bool true) rfl (by rw [hb9])
    have hk9 : k < n := by have := of_decide_eq_true hb9; omega
    obtain ⟨e, hke⟩ : ∃ e, l[k]? = some e := ⟨_, List.getElem?_eq_getElem (by omega)⟩
    refine cond_true HF rfl ?_
    refine wp_skip ?_
    refine wp_seq ?_
    refine wp_block ?_
    refine wp_seq ?_
    refine from_start ?_
    obtain ⟨gA, oA, rfl, _⟩ := hr.some_at (Nat.lt_of_le_of_lt (Nat.zero_le _) (show k < n from hk9)) (by decide)
    refine from_yl (S := fun wS => Mem w wS _) HF HM (i := 0) rfl rfl (d := 10) rfl (by decide) (v := .pointer (some ⟨gA, oA + k * 11, none⟩)) ((Yl.indexAddr (ad := ⟨gA, oA, none⟩) (y := k) (sz := 11) rfl rfl rfl (hk9) (by kernel_rfl)).as (by rw [Addr.add_mid])) ?_; clear HF; intro a HF
    refine from_yl (S := fun wS => Mem w wS _) HF HM (i := 1) rfl rfl (d := 11) rfl (by decide) (v := .agg e.cells) (Yl.loadS rfl rfl ⟨(by kernel_rfl), (by kernel_rfl)⟩ rfl (fun _ h => (h.old hr).structAt evL_len (hke))) ?_; clear HF; intro a HF
    refine from_op HF (i := 2) rfl rfl ?_
    refine e_alloc HF HM (cs := #[.int .i64 0, .int .i64 0, .int .u8 0, .int .u8 0, .int .i64 0, .int .i64 0, .int .i64 0, .int .i64 0, .int .i64 0, .int .u64 0, .int .i64 0]) rfl (by kernel_rfl) rfl (by decide) ?_
    clear HF HM; intro a w5 g5 HF HM
    refine from_op HF (i := 3) rfl rfl ?_
    refine e_storeAll HF HM (i := 0) (cs := #[.int .i64 0, .int .i64 0, .int .u8 0, .int .u8 0, .int .i64 0, .int .i64 0, .int .i64 0, .int .i64 0, .int .i64 0, .int .u64 0, .int .i64 0]) (ds := e.cells) rfl rfl rfl rfl ⟨(by kernel_rfl), (by kernel_rfl)⟩ rfl rfl (ev_one e) rfl ?_
    clear HM; intro w4_3 HM
    refine from_done rfl ?_
    replace HF := HF.sub (σ' := [(5, .pointer (some ⟨g5, 0, none⟩)), (9, .bool true), (8, .int .i64 (k : Int)), (7, .int .i64 ((n : Nat) : Int)), (6, .slice (some ⟨gA, oA, none⟩) n c), (3, .slice Ak k ck), (2, .slice none 0 0)]) (by kernel_rfl)
    refine from_start ?_
    refine from_pures HF 1 0 (j := 1) [(12, .slice Ak k ck)] (by kernel_rfl) rfl ?_; clear HF; intro a HF
    refine from_yl (S := fun wS => Mem w wS _) HF HM (i := 1) rfl rfl (d := 13) rfl (by decide) (v := .agg e.cells) (Yl.loadS rfl rfl ⟨(by kernel_rfl), (by kernel_rfl)⟩ rfl (fun _ h => range_of_block (h.blk (i := 0) rfl))) ?_; clear HF; intro a HF
    refine from_op HF (i := 2) rfl rfl ?_
    refine e_slice HF HM (vs := [(0, .agg e.cells)]) (cs := e.cells) rfl ei_rev (by decide) rfl (by kernel_rfl) rfl (by decide) ?_
    clear HF HM; intro a w14 g14 HF HM
    refine from_op HF (i := 3) rfl rfl ?_
    refine e_append HF HM (i := 2) rfl ei_rev rfl rfl rfl (news := (evL e)) (HM.rdBlk (i := 0) (n := 1) (size := 11) rfl rfl) (ev_one e) (by omega) (by omega) rfl (by decide) ?_
    clear HF HM; intro a w15 A15 c15 HF HM hc15
    refine from_pures HF 1 4 (j := 5) [(3, .slice A15 (k + 1) c15)] (by kernel_rfl) rfl ?_; clear HF; intro a HF
    refine from_done rfl ?_
    replace HF := HF.sub (σ' := [(3, .slice A15 (k + 1) c15), (5, .pointer (some ⟨g5, 0, none⟩)), (9, .bool true), (8, .int .i64 (k : Int)), (7, .int .i64 ((n : Nat) : Int)), (6, .slice (some ⟨gA, oA, none⟩) n c), (2, .slice none 0 0)]) (by kernel_rfl)
    replace HM := HM.picks (fs' := [.blk g5 e.cells 37, .row (.slice A15 (k + 1) c15) (k + 1) (((l.take k).flatMap evL) ++ (evL e)) 64 11]) [1, 2] (by decide) rfl
    have hnA15 : k + 1 = k + 1 := rfl
    replace HM := HM.reRow (i := 1) (ys := (l.take (k + 1)).flatMap evL) rfl hnA15 (by rw [List.take_add_one, hke]; simp)
    rw [hnA15] at hc15
    replace HF := HF.as (t := 3) (u := .slice A15 (k + 1) c15) rfl (by rw [hnA15])
    refine from_start ?_
    refine from_pures HF 1 0 (j := 1) [(16, .int .i64 (IntKind.i64.wrap ((k : Int) + 1)))] (by kernel_rfl) rfl ?_; clear HF; intro a HF
    replace HF := HF.as (t := 16) (u := .int .i64 ((k + 1 : Nat) : Int)) rfl (by rw [IntWalk.i64_in _ (by omega)]; simp)
    refine from_pures HF 1 1 (j := 2) [(8, .int .i64 ((k + 1 : Nat) : Int))] (by kernel_rfl) rfl ?_; clear HF; intro a HF
    refine from_done rfl ?_
    replace HF := HF.sub (σ' := [(8, .int .i64 ((k + 1 : Nat) : Int)), (3, .slice A15 (k + 1) c15), (5, .pointer (some ⟨g5, 0, none⟩)), (9, .bool true), (7, .int .i64 ((n : Nat) : Int)), (6, .slice (some ⟨gA, oA, none⟩) n c), (2, .slice none 0 0)]) (by kernel_rfl)
    exact ⟨_, (by omega), k + 1, A15, c15, by omega, hc15, rfl, HF.sub (by kernel_rfl), HM.picks [1] (by decide) rfl⟩
  · have HF := HF.as (t := 9) (u := .bool false) rfl (by rw [hb9])
    obtain rfl : n = k := by have := of_decide_eq_false hb9; omega
    refine cond_false HF rfl ?_
    refine wp_exit ?_
    refine wp_seq ?_
    refine from_start ?_
    refine from_pures HF 2 0 (j := 2) [(2, .slice Ak n ck), (17, .slice Ak n ck)] (by kernel_rfl) rfl ?_; clear HF; intro a HF
    refine from_done rfl ?_
    replace HF := HF.sub (σ' := [(2, .slice Ak n ck), (9, .bool false), (8, .int .i64 (n : Int)), (7, .int .i64 ((n : Nat) : Int)), (6, .slice A n c), (3, .slice Ak n ck)]) (by kernel_rfl)
    refine wp_ret ?_
    exact ret1 rfl HF (.tmp HF rfl) (⟨⟨Ak, ck, by rw [hln], by have h := HM.own (i := 0) rfl; rwa [List.take_of_length_le (by omega), ← hln] at h, by omega⟩, HM.below⟩)
set_option maxRecDepth 100000 in
set_option maxHeartbeats 4000000 in
theorem same_any (A A2 : Option Addr) (n c c2 : Nat) (l : List Ev) (w : World) (hr : Rd w w.heap.size 11 A n (l.flatMap evL)) (hr2 : Rd w w.heap.size 11 A2 n (l.flatMap evL)) (hn : n ≤ 1000000000) (hln : l.length = n) :
    Calls Tryd.prog 31 #[.slice A n c, .slice A2 n c2] w (BoolPost w true) := by
  refine calls_enter (vs := [.slice A n c, .slice A2 n c2]) Tryd.func31 rfl rfl (by kernel_rfl) (σ0 := [(0, .slice A n c), (1, .slice A2 n c2)]) rfl ?_
  intro a HF
  have HM := Mem.start w
  refine wp_seq ?_
  refine from_start ?_
  refine from_pures HF 1 0 (j := 1) [(4, .bool false)] (by kernel_rfl) rfl ?_; clear HF; intro a HF
  refine from_done rfl ?_
  refine wp_seq ?_
  refine wp_seq ?_
  refine from_start ?_
  refine from_pures HF 1 0 (j := 1) [(7, .slice A n c)] (by kernel_rfl) rfl ?_; clear HF; intro a HF
  refine from_yl (S := fun wS => Mem w wS _) HF HM (i := 1) rfl rfl (d := 8) rfl (by decide) (v := .int .i64 ((n : Nat) : Int)) (Yl.len rfl rfl (by kernel_rfl)) ?_; clear HF; intro a HF
  refine from_pures HF 1 2 (j := 3) [(9, .slice A2 n c2)] (by kernel_rfl) rfl ?_; clear HF; intro a HF
  refine from_yl (S := fun wS => Mem w wS _) HF HM (i := 3) rfl rfl (d := 10) rfl (by decide) (v := .int .i64 ((n : Nat) : Int)) (Yl.len rfl rfl (by kernel_rfl)) ?_; clear HF; intro a HF
  refine from_pures HF 1 4 (j := 5) [(11, .bool ((((n : Nat) : Int) : Int) != (((n : Nat) : Int) : Int)))] (by kernel_rfl) rfl ?_; clear HF; intro a HF
  replace HF := HF.as (t := 11) (u := .bool false) rfl (by simp)
  refine from_done rfl ?_
  replace HF := HF.sub (σ' := [(11, .bool false), (4, .bool false), (0, .slice A n c), (1, .slice A2 n c2)]) (by kernel_rfl)
  refine cond_false HF rfl ?_
  refine wp_skip ?_
  refine wp_seq ?_
  refine wp_seq ?_
  refine from_start ?_
  refine from_pures HF 1 0 (j := 1) [(12, .slice A n c)] (by kernel_rfl) rfl ?_; clear HF; intro a HF
  refine from_yl (S := fun wS => Mem w wS _) HF HM (i := 1) rfl rfl (d := 13) rfl (by decide) (v := .int .i64 ((n : Nat) : Int)) (Yl.len rfl rfl (by kernel_rfl)) ?_; clear HF; intro a HF
  refine from_pures HF 1 2 (j := 3) [(14, .int .i64 0)] (by kernel_rfl) rfl ?_; clear HF; intro a HF
  refine from_done rfl ?_
  refine wp_block ?_
  refine loop_nat (fun mS aS wS => ∃ (k : Nat), (k ≤ n) ∧ mS = n - k ∧ Fr aS 26 [] [(14, .int .i64 (k : Int)), (13, .int .i64 ((n : Nat) : Int)), (12, .slice A n c), (11, .bool false), (4, .bool false), (0, .slice A n c), (1, .slice A2 n c2)] ∧ Mem w wS []) (m := n - 0) ⟨0, Nat.zero_le _, rfl, HF.sub (by kernel_rfl), HM.picks [] (by decide) rfl⟩ ?_
  clear HF HM; rintro mS a w_ ⟨k, hk, rfl, HF, HM⟩
  refine wp_seq ?_
  refine from_start ?_
  refine from_pures HF 1 0 (j := 1) [(15, .bool (decide (((k : Int) : Int) < (((n : Nat) : Int) : Int))))] (by kernel_rfl) rfl ?_; clear HF; intro a HF
  refine from_done rfl ?_
  refine wp_seq ?_
  rcases Bool.eq_false_or_eq_true (decide (((k : Int) : Int) < (((n : Nat) : Int) : Int))) with hb15 | hb15
  · have HF := HF.as (t := 15) (u := .bool true) rfl (by rw [hb15])
    have hk9 : k < n := by have := of_decide_eq_true hb15; omega
    obtain ⟨e, hke⟩ : ∃ e, l[k]? = some e := ⟨_, List.getElem?_eq_getElem (by omega)⟩
    refine cond_true HF rfl ?_
    refine wp_skip ?_
    refine wp_seq ?_
    refine wp_block ?_
    refine wp_seq ?_
    refine from_start ?_
    refine from_pures HF 1 0 (j := 1) [(16, .int .i64 (k : Int))] (by kernel_rfl) rfl ?_; clear HF; intro a HF
    obtain ⟨gA, oA, rfl, _⟩ := hr.some_at (Nat.lt_of_le_of_lt (Nat.zero_le _) (show k < n from hk9)) (by decide)
    refine from_yl (S := fun wS => Mem w wS _) HF HM (i := 1) rfl rfl (d := 17) rfl (by decide) (v := .pointer (some ⟨gA, oA + k * 11, none⟩)) ((Yl.indexAddr (ad := ⟨gA, oA, none⟩) (y := k) (sz := 11) rfl rfl rfl (hk9) (by kernel_rfl)).as (by rw [Addr.add_mid])) ?_; clear HF; intro a HF
    refine from_yl (S := fun wS => Mem w wS _) HF HM (i := 2) rfl rfl (d := 18) rfl (by decide) (v := .agg e.cells) (Yl.loadS rfl rfl ⟨(by kernel_rfl), (by kernel_rfl)⟩ rfl (fun _ h => (h.old hr).structAt evL_len (hke))) ?_; clear HF; intro a HF
    refine from_op HF (i := 3) rfl rfl ?_
    refine e_alloc HF HM (cs := #[.int .i64 0, .int .i64 0, .int .u8 0, .int .u8 0, .int .i64 0, .int .i64 0, .int .i64 0, .int .i64 0, .int .i64 0, .int .u64 0, .int .i64 0]) rfl (by kernel_rfl) rfl (by decide) ?_
    clear HF HM; intro a w6 g6 HF HM
    refine from_pures HF 1 4 (j := 5) [(5, .int .i64 (k : Int))] (by kernel_rfl) rfl ?_; clear HF; intro a HF
    refine from_op HF (i := 5) rfl rfl ?_
    refine e_storeAll HF HM (i := 0) (cs := #[.int .i64 0, .int .i64 0, .int .u8 0, .int .u8 0, .int .i64 0, .int .i64 0, .int .i64 0, .int .i64 0, .int .i64 0, .int .u64 0, .int .i64 0]) (ds := e.cells) rfl rfl rfl rfl ⟨(by kernel_rfl), (by kernel_rfl)⟩ rfl rfl (ev_one e) rfl ?_
    clear HM; intro w5_5 HM
    refine from_done rfl ?_
    replace HF := HF.sub (σ' := [(5, .int .i64 (k : Int)), (6, .pointer (some ⟨g6, 0, none⟩)), (15, .bool true), (14, .int .i64 (k : Int)), (13, .int .i64 ((n : Nat) : Int)), (12, .slice (some ⟨gA, oA, none⟩) n c), (11, .bool false), (4, .bool false), (0, .slice (some ⟨gA, oA, none⟩) n c), (1, .slice A2 n c2)]) (by kernel_rfl)
    refine wp_seq ?_
    refine any_start (by kernel_rfl) (fun wS => Mem w wS [.blk g6 e.cells 37]) [] ?_
    replace HM := HM.drew
    have HS := HM.picks (fs' := [.blk g6 e.cells 37]) [0] (by decide) rfl
    refine any_pures HF (fun _ => HS) (fun _ _ d _ _ h => by cases d <;> exact h) [1, 2] #[false, true, true, false, false, false] [(21, .int .i64 (k : Int)), (20, .slice A2 n c2)] (by kernel_rfl) ?_; clear HF; intro a HF
    refine any_yl HF HS (i := 0) rfl rfl (d := 19) rfl (by decide) (by kernel_rfl) (fun _ _ _ h => h) (v := .agg e.cells) (Yl.loadS rfl rfl ⟨(by kernel_rfl), (by kernel_rfl)⟩ rfl (fun _ h => range_of_block (h.blk (i := 0) rfl))) ?_; clear HF; intro a HF
    obtain ⟨gA2, oA2, rfl, _⟩ := hr2.some_at (Nat.lt_of_le_of_lt (Nat.zero_le _) (show k < n from hk9)) (by decide)
    refine any_yl HF HS (i := 3) rfl rfl (d := 22) rfl (by decide) (by kernel_rfl) (fun _ _ _ h => h) (v := .pointer (some ⟨gA2, oA2 + k * 11, none⟩)) ((Yl.indexAddr (ad := ⟨gA2, oA2, none⟩) (y := k) (sz := 11) rfl rfl rfl (hk9) (by kernel_rfl)).as (by rw [Addr.add_mid])) ?_; clear HF; intro a HF
    refine any_yl HF HS (i := 4) rfl rfl (d := 23) rfl (by decide) (by kernel_rfl) (fun _ _ _ h => h) (v := .agg e.cells) (Yl.loadS rfl rfl ⟨(by kernel_rfl), (by kernel_rfl)⟩ rfl (fun _ h => (h.old hr2).structAt evL_len (hke))) ?_; clear HF; intro a HF
    refine any_yl HF HS (i := 5) rfl rfl (d := 24) rfl (by decide) (by kernel_rfl) (fun _ _ _ h => h) (v := .bool (!(decide (e = e)))) (Yl.neqEv (x := e) (y := e) rfl rfl rfl (by kernel_rfl)) ?_; clear HF; intro a HF
    replace HF := HF.as (t := 24) (u := .bool false) rfl (by simp)
    refine any_done (by kernel_rfl) ?_
    replace HF := HF.sub (σ' := [(24, .bool false), (5, .int .i64 (k : Int)), (6, .pointer (some ⟨g6, 0, none⟩)), (15, .bool true), (14, .int .i64 (k : Int)), (13, .int .i64 ((n : Nat) : Int)), (12, .slice (some ⟨gA, oA, none⟩) n c), (11, .bool false), (4, .bool false), (0, .slice (some ⟨gA, oA, none⟩) n c), (1, .slice (some ⟨gA2, oA2, none⟩) n c2)]) (by kernel_rfl)
    refine cond_false HF rfl ?_
    refine wp_skip ?_
    refine from_start ?_
    refine from_pures HF 1 0 (j := 1) [(25, .int .i64 (IntKind.i64.wrap ((k : Int) + 1)))] (by kernel_rfl) rfl ?_; clear HF; intro a HF
    replace HF := HF.as (t := 25) (u := .int .i64 ((k + 1 : Nat) : Int)) rfl (by rw [IntWalk.i64_in _ (by omega)]; simp)
    refine from_pures HF 1 1 (j := 2) [(14, .int .i64 ((k + 1 : Nat) : Int))] (by kernel_rfl) rfl ?_; clear HF; intro a HF
    refine from_done rfl ?_
    replace HF := HF.sub (σ' := [(14, .int .i64 ((k + 1 : Nat) : Int)), (24, .bool false), (5, .int .i64 (k : Int)), (6, .pointer (some ⟨g6, 0, none⟩)), (15, .bool true), (13, .int .i64 ((n : Nat) : Int)), (12, .slice (some ⟨gA, oA, none⟩) n c), (11, .bool false), (4, .bool false), (0, .slice (some ⟨gA, oA, none⟩) n c), (1, .slice (some ⟨gA2, oA2, none⟩) n c2)]) (by kernel_rfl)
    exact ⟨_, (by omega), k + 1, by omega, rfl, HF.sub (by kernel_rfl), HM.picks [] (by decide) rfl⟩
  · have HF := HF.as (t := 15) (u := .bool false) rfl (by rw [hb15])
    refine cond_false HF rfl ?_
    refine wp_exit ?_
    refine wp_seq ?_
    refine from_start ?_
    refine from_pures HF 1 0 (j := 1) [(4, .bool true)] (by kernel_rfl) rfl ?_; clear HF; intro a HF
    refine from_done rfl ?_
    replace HF := HF.sub (σ' := [(4, .bool true), (15, .bool false), (14, .int .i64 (k : Int)), (13, .int .i64 ((n : Nat) : Int)), (12, .slice A n c), (11, .bool false), (0, .slice A n c), (1, .slice A2 n c2)]) (by kernel_rfl)
    refine wp_ret ?_
    exact ret1 rfl HF (.tmp HF rfl) (⟨rfl, HM.below⟩)
end Go.Proofs.YtpekelggcmgnnaaDoor

/- quantumref07.Write is what codec.Write is. -/
set_option linter.all false
namespace Go.Proofs.YtpekelggcmgnnaaDoor
open Go.RowKit
set_option maxRecDepth 100000 in
set_option maxHeartbeats 4000000 in
theorem write07_any (b : Bs) (A : Option Addr) (n c : Nat) (l : List Ev) (hok : ∀ e ∈ l, e.Ok) (w : World) (hr : Rd w w.heap.size 11 A n (l.flatMap evL)) (hn : n ≤ 1000000000) (hn47 : n ≤ 140737488355328) (hln : l.length = n) :
    Calls Tryd.prog 29 #[.agg b.cells, .slice A n c] w (BytesIs w (writeErr b l) (writeOut b l)) := by
  refine calls_enter (vs := [.agg b.cells, .slice A n c]) Tryd.func29 rfl rfl (by kernel_rfl) (σ0 := [(0, .agg b.cells), (1, .slice A n c)]) rfl ?_
  intro a HF
  have HM := Mem.start w
  refine wp_seq ?_
  refine from_start ?_
  refine from_op HF (i := 0) rfl rfl ?_
  refine e_box HF HM (cs := b.cells) rfl rfl rfl rfl (by decide) ?_
  clear HF HM; intro a w2 g2 HF HM
  refine from_pures HF 2 1 (j := 3) [(5, .int .i64 0), (4, .slice none 0 0)] (by kernel_rfl) rfl ?_; clear HF; intro a HF
  refine from_done rfl ?_
  replace HF := HF.sub (σ' := [(5, .int .i64 0), (4, .slice none 0 0), (2, .pointer (some ⟨g2, 0, none⟩)), (1, .slice A n c)]) (by kernel_rfl)
  refine wp_seq ?_
  refine wp_seq ?_
  refine from_start ?_
  refine from_pures HF 1 0 (j := 1) [(13, .slice A n c)] (by kernel_rfl) rfl ?_; clear HF; intro a HF
  refine from_op HF (i := 1) rfl rfl ?_
  refine e_call HF (vs := [.slice A n c]) rfl (by kernel_rfl) (by kernel_rfl) rfl (by decide) (row07_any _ _ _ l hok _ (HM.old hr) hn47 hln) ?_
  rintro _ w14 ⟨rfl, hbw⟩
  refine ⟨_, rfl, ?_⟩
  replace HM := HM.call hbw
  clear HF; intro a HF
  refine from_pures HF 5 2 (j := 7) [(7, .int .i64 ((rowR l).2 : Int)), (6, .int .i64 ((rowR l).1)), (16, .int .i64 ((rowR l).2 : Int)), (15, .int .i64 ((rowR l).1)), (12, .tuple #[.int .i64 ((rowR l).1), .int .i64 ((rowR l).2 : Int)])] (by kernel_rfl) rfl ?_; clear HF; intro a HF
  refine from_done rfl ?_
  replace HF := HF.sub (σ' := [(7, .int .i64 ((rowR l).2 : Int)), (5, .int .i64 0), (4, .slice none 0 0), (2, .pointer (some ⟨g2, 0, none⟩)), (1, .slice A n c)]) (by kernel_rfl)
  refine wp_seq ?_
  refine from_start ?_
  refine from_pures HF 2 0 (j := 2) [(18, .bool ((((rowR l).2 : Int) : Int) != (0 : Int))), (17, .int .i64 ((rowR l).2 : Int))] (by kernel_rfl) rfl ?_; clear HF; intro a HF
  refine from_done rfl ?_
  replace HF := HF.sub (σ' := [(18, .bool ((((rowR l).2 : Int) : Int) != (0 : Int))), (7, .int .i64 ((rowR l).2 : Int)), (5, .int .i64 0), (4, .slice none 0 0), (2, .pointer (some ⟨g2, 0, none⟩)), (1, .slice A n c)]) (by kernel_rfl)
  rcases Bool.eq_false_or_eq_true ((((rowR l).2 : Int) : Int) != (0 : Int)) with hb18 | hb18
  · have HF := HF.as (t := 18) (u := .bool true) rfl (by rw [hb18])
    have hr0 : (rowR l).2 ≠ 0 := by rw [bne_iff_ne] at hb18; omega
    refine cond_true HF rfl ?_
    refine wp_seq ?_
    refine from_start ?_
    refine from_pures HF 3 0 (j := 3) [(5, .int .i64 ((rowR l).2 : Int)), (4, .slice none 0 0), (19, .int .i64 ((rowR l).2 : Int))] (by kernel_rfl) rfl ?_; clear HF; intro a HF
    refine from_done rfl ?_
    replace HF := HF.sub (σ' := [(5, .int .i64 ((rowR l).2 : Int)), (4, .slice none 0 0), (18, .bool true), (7, .int .i64 ((rowR l).2 : Int)), (2, .pointer (some ⟨g2, 0, none⟩)), (1, .slice A n c)]) (by kernel_rfl)
    refine wp_ret ?_
    exact ret2 rfl HF (.tmp HF rfl) (.tmp HF rfl) (bytesIs_none (writeErr_row hr0) (hr0) HM.below)
  · have HF := HF.as (t := 18) (u := .bool false) rfl (by rw [hb18])
    have hr0 : (rowR l).2 = 0 := by rw [bne_eq_false_iff_eq] at hb18; omega
    refine cond_false HF rfl ?_
    refine wp_skip ?_
    refine wp_seq ?_
    refine wp_seq ?_
    refine from_start ?_
    refine from_yl (S := fun wS => Mem w wS _) HF HM (i := 0) rfl rfl (d := 20) rfl (by decide) (v := .agg b.cells) (Yl.loadS rfl rfl ⟨(by kernel_rfl), (by kernel_rfl)⟩ rfl (fun _ h => range_of_block (h.blk (i := 0) rfl))) ?_; clear HF; intro a HF
    refine from_op HF (i := 1) rfl rfl ?_
    refine e_call HF (vs := [.agg b.cells]) rfl (by kernel_rfl) (by kernel_rfl) rfl (by decide) (right07_any b _) ?_
    rintro _ w21 ⟨rfl, hbw⟩
    refine ⟨_, rfl, ?_⟩
    replace HM := HM.call hbw
    clear HF; intro a HF
    refine from_pures HF 1 2 (j := 3) [(22, .bool (!b.right))] (by kernel_rfl) rfl ?_; clear HF; intro a HF
    refine from_done rfl ?_
    replace HF := HF.sub (σ' := [(22, .bool (!b.right)), (18, .bool false), (7, .int .i64 ((rowR l).2 : Int)), (5, .int .i64 0), (4, .slice none 0 0), (2, .pointer (some ⟨g2, 0, none⟩)), (1, .slice A n c)]) (by kernel_rfl)
    rcases Bool.eq_false_or_eq_true (!b.right) with hb22 | hb22
    · have HF := HF.as (t := 22) (u := .bool true) rfl (by rw [hb22])
      have hrf : ¬ b.right = true := by simpa using hb22
      refine cond_true HF rfl ?_
      refine wp_seq ?_
      refine from_start ?_
      refine from_pures HF 2 0 (j := 2) [(5, .int .i64 70), (4, .slice none 0 0)] (by kernel_rfl) rfl ?_; clear HF; intro a HF
      refine from_done rfl ?_
      replace HF := HF.sub (σ' := [(5, .int .i64 70), (4, .slice none 0 0), (22, .bool true), (18, .bool false), (7, .int .i64 ((rowR l).2 : Int)), (2, .pointer (some ⟨g2, 0, none⟩)), (1, .slice A n c)]) (by kernel_rfl)
      refine wp_ret ?_
      exact ret2 rfl HF (.tmp HF rfl) (.tmp HF rfl) (bytesIs_none (writeErr_base hr0 hrf) (by decide) HM.below)
    · have HF := HF.as (t := 22) (u := .bool false) rfl (by rw [hb22])
      have hrt : b.right = true := by simpa using hb22
      refine cond_false HF rfl ?_
      refine wp_skip ?_
      refine wp_seq ?_
      refine from_start ?_
      refine from_pures HF 1 0 (j := 1) [(8, .slice none 0 0)] (by kernel_rfl) rfl ?_; clear HF; intro a HF
      refine from_done rfl ?_
      replace HF := HF.sub (σ' := [(8, .slice none 0 0), (22, .bool false), (18, .bool false), (7, .int .i64 ((rowR l).2 : Int)), (5, .int .i64 0), (4, .slice none 0 0), (2, .pointer (some ⟨g2, 0, none⟩)), (1, .slice A n c)]) (by kernel_rfl)
      replace HM := HM.nil 5 1
      refine wp_seq ?_
      refine wp_seq ?_
      refine from_start ?_
      refine from_pures HF 1 0 (j := 1) [(9, .int .i64 0)] (by kernel_rfl) rfl ?_; clear HF; intro a HF
      refine from_done rfl ?_
      refine wp_block ?_
      refine loop_nat (fun mS aS wS => ∃ (k : Nat) (bk : Bs) (Ak : Option Addr) (ck : Nat), (k ≤ n) ∧ (WriteAt b l k bk) ∧ ((writeUp b l k).length ≤ ck) ∧ mS = n - k ∧ Fr aS 56 [] [(9, .int .i64 (k : Int)), (8, .slice Ak ((writeUp b l k).length) ck), (22, .bool false), (18, .bool false), (7, .int .i64 ((rowR l).2 : Int)), (5, .int .i64 0), (4, .slice none 0 0), (2, .pointer (some ⟨g2, 0, none⟩)), (1, .slice A n c)] ∧ Mem w wS [.row (.slice Ak ((writeUp b l k).length) ck) ((writeUp b l k).length) ((writeUp b l k).map B8) 5 1, .blk g2 bk.cells 63]) (m := n - 0) ⟨0, b, none, 0, Nat.zero_le _, WriteAt.start b l, Nat.le_refl _, rfl, HF.sub (by kernel_rfl), HM.picks [0, 1] (by decide) rfl⟩ ?_
      clear HF HM; rintro mS a w_ ⟨k, bk, Ak, ck, hk, hat, hck, rfl, HF, HM⟩
      refine wp_seq ?_
      refine wp_seq ?_
      refine from_start ?_
      refine from_pures HF 2 0 (j := 2) [(24, .slice A n c), (23, .int .i64 (k : Int))] (by kernel_rfl) rfl ?_; clear HF; intro a HF
      refine from_yl (S := fun wS => Mem w wS _) HF HM (i := 2) rfl rfl (d := 25) rfl (by decide) (v := .int .i64 ((n : Nat) : Int)) (Yl.len rfl rfl (by kernel_rfl)) ?_; clear HF; intro a HF
      refine from_pures HF 1 3 (j := 4) [(26, .bool (decide (((k : Int) : Int) < (((n : Nat) : Int) : Int))))] (by kernel_rfl) rfl ?_; clear HF; intro a HF
      refine from_done rfl ?_
      replace HF := HF.sub (σ' := [(26, .bool (decide (((k : Int) : Int) < (((n : Nat) : Int) : Int)))), (9, .int .i64 (k : Int)), (8, .slice Ak ((writeUp b l k).length) ck), (22, .bool false), (18, .bool false), (7, .int .i64 ((rowR l).2 : Int)), (5, .int .i64 0), (4, .slice none 0 0), (2, .pointer (some ⟨g2, 0, none⟩)), (1, .slice A n c)]) (by kernel_rfl)
      rcases Bool.eq_false_or_eq_true (decide (((k : Int) : Int) < (((n : Nat) : Int) : Int))) with hb26 | hb26
      · have HF := HF.as (t := 26) (u := .bool true) rfl (by rw [hb26])
        have hk26 : k < n := by simp at hb26; omega
        obtain ⟨e, hke⟩ : ∃ e, l[k]? = some e := ⟨_, List.getElem?_eq_getElem (by omega)⟩
        have hpl := putOut_le bk e
        have hwl := writeUp_len b l k
        refine cond_true HF rfl ?_
        refine wp_skip ?_
        refine wp_seq ?_
        refine wp_block ?_
        refine wp_seq ?_
        refine any_start (by kernel_rfl) (fun wS => Mem w wS [.row (.slice Ak ((writeUp b l k).length) ck) ((writeUp b l k).length) ((writeUp b l k).map B8) 5 1, .blk g2 bk.cells 63]) [] ?_
        replace HM := HM.drew
        have HS := HM.picks (fs' := [.row (.slice Ak ((writeUp b l k).length) ck) ((writeUp b l k).length) ((writeUp b l k).map B8) 5 1, .blk g2 bk.cells 63]) [0, 1] (by decide) rfl
        refine any_pures HF (fun _ => HS) (fun _ _ d _ _ h => by cases d <;> exact h) [1, 2] #[false, true, true, false, false, false, false, false, false, false, false] [(32, .int .i64 (k : Int)), (31, .slice A n c)] (by kernel_rfl) ?_; clear HF; intro a HF
        refine any_yl HF HS (i := 0) rfl rfl (d := 30) rfl (by decide) (by kernel_rfl) (fun _ _ _ h => h) (v := .agg bk.cells) (Yl.loadS rfl rfl ⟨(by kernel_rfl), (by kernel_rfl)⟩ rfl (fun _ h => range_of_block (h.blk (i := 1) rfl))) ?_; clear HF; intro a HF
        obtain ⟨gA, oA, rfl, _⟩ := hr.some_at (Nat.lt_of_le_of_lt (Nat.zero_le _) (show k < n from hk26)) (by decide)
        refine any_yl HF HS (i := 3) rfl rfl (d := 33) rfl (by decide) (by kernel_rfl) (fun _ _ _ h => h) (v := .pointer (some ⟨gA, oA + k * 11, none⟩)) ((Yl.indexAddr (ad := ⟨gA, oA, none⟩) (y := k) (sz := 11) rfl rfl rfl (hk26) (by kernel_rfl)).as (by rw [Addr.add_mid])) ?_; clear HF; intro a HF
        refine any_yl HF HS (i := 4) rfl rfl (d := 34) rfl (by decide) (by kernel_rfl) (fun _ _ _ h => h) (v := .agg e.cells) (Yl.loadS rfl rfl ⟨(by kernel_rfl), (by kernel_rfl)⟩ rfl (fun _ h => (h.old hr).structAt evL_len (hke))) ?_; clear HF; intro a HF
        refine any_all [5] (by kernel_rfl) rfl ?_
        refine all_cons ?_ all_nil
        refine any_op HF (i := 5) rfl rfl ?_
        refine e_call HF (vs := [.agg bk.cells, .agg e.cells]) rfl (by kernel_rfl) (by kernel_rfl) rfl (by decide) (put07_any bk e (hok e (List.mem_of_getElem? hke)) _) ?_
        rintro _ w35 ⟨⟨A35, c35, rfl, ho, hc35⟩, hbw⟩
        refine ⟨_, rfl, ?_⟩
        replace HM := HM.callRow hbw ho
        clear HF; intro a HF
        refine keepS (HM.picks [1, 2] (by decide) rfl) (fun HS => ?_)
        refine any_pures HF (fun _ => HS) (fun _ _ d _ _ h => by cases d <;> exact h) [6, 7, 8, 9, 10] #[true, true, true, true, true, true, true, true, true, true, true] [(11, .int .i64 (putErr bk e : Int)), (10, .slice A35 ((putOut bk e).length) c35), (37, .int .i64 (putErr bk e : Int)), (36, .slice A35 ((putOut bk e).length) c35), (29, .tuple #[.slice A35 ((putOut bk e).length) c35, .int .i64 (putErr bk e : Int)])] (by kernel_rfl) ?_; clear HF; intro a HF
        refine any_done (by kernel_rfl) ?_
        replace HF := HF.sub (σ' := [(11, .int .i64 (putErr bk e : Int)), (10, .slice A35 ((putOut bk e).length) c35), (26, .bool true), (9, .int .i64 (k : Int)), (8, .slice Ak ((writeUp b l k).length) ck), (22, .bool false), (18, .bool false), (7, .int .i64 ((rowR l).2 : Int)), (5, .int .i64 0), (4, .slice none 0 0), (2, .pointer (some ⟨g2, 0, none⟩)), (1, .slice (some ⟨gA, oA, none⟩) n c)]) (by kernel_rfl)
        refine wp_seq ?_
        refine wp_seq ?_
        refine from_start ?_
        refine from_pures HF 2 0 (j := 2) [(39, .bool (((putErr bk e : Int) : Int) != (0 : Int))), (38, .int .i64 (putErr bk e : Int))] (by kernel_rfl) rfl ?_; clear HF; intro a HF
        refine from_done rfl ?_
        replace HF := HF.sub (σ' := [(39, .bool (((putErr bk e : Int) : Int) != (0 : Int))), (11, .int .i64 (putErr bk e : Int)), (10, .slice A35 ((putOut bk e).length) c35), (26, .bool true), (9, .int .i64 (k : Int)), (8, .slice Ak ((writeUp b l k).length) ck), (22, .bool false), (18, .bool false), (7, .int .i64 ((rowR l).2 : Int)), (5, .int .i64 0), (4, .slice none 0 0), (2, .pointer (some ⟨g2, 0, none⟩)), (1, .slice (some ⟨gA, oA, none⟩) n c)]) (by kernel_rfl)
        rcases Bool.eq_false_or_eq_true (((putErr bk e : Int) : Int) != (0 : Int)) with hb39 | hb39
        · have HF := HF.as (t := 39) (u := .bool true) rfl (by rw [hb39])
          have hpe : putErr bk e ≠ 0 := by rw [bne_iff_ne] at hb39; omega
          have hk00 : k = 0 := hat.bad hr0 hrt hke hpe
          have hend := hat.fail hr0 hrt hke hk00 hpe
          refine cond_true HF rfl ?_
          refine wp_seq ?_
          refine from_start ?_
          refine from_pures HF 3 0 (j := 3) [(5, .int .i64 (putErr bk e : Int)), (4, .slice none 0 0), (40, .int .i64 (putErr bk e : Int))] (by kernel_rfl) rfl ?_; clear HF; intro a HF
          refine from_done rfl ?_
          replace HF := HF.sub (σ' := [(5, .int .i64 (putErr bk e : Int)), (4, .slice none 0 0), (39, .bool true), (11, .int .i64 (putErr bk e : Int)), (10, .slice A35 ((putOut bk e).length) c35), (26, .bool true), (9, .int .i64 (k : Int)), (8, .slice Ak ((writeUp b l k).length) ck), (22, .bool false), (18, .bool false), (7, .int .i64 ((rowR l).2 : Int)), (2, .pointer (some ⟨g2, 0, none⟩)), (1, .slice (some ⟨gA, oA, none⟩) n c)]) (by kernel_rfl)
          refine wp_ret ?_
          exact ret2 rfl HF (.tmp HF rfl) (.tmp HF rfl) (bytesIs_none (hend) (hpe) HM.below)
        · have HF := HF.as (t := 39) (u := .bool false) rfl (by rw [hb39])
          have hpe : putErr bk e = 0 := by rw [bne_eq_false_iff_eq] at hb39; omega
          have hup := hat.up hke hpe
          have hnx := hat.next hke hpe
          refine cond_false HF rfl ?_
          refine wp_skip ?_
          refine wp_seq ?_
          refine from_start ?_
          refine from_pures HF 2 0 (j := 2) [(42, .slice A35 ((putOut bk e).length) c35), (41, .slice Ak ((writeUp b l k).length) ck)] (by kernel_rfl) rfl ?_; clear HF; intro a HF
          refine from_op HF (i := 2) rfl rfl ?_
          refine e_append HF HM (i := 1) rfl ei_u8 rfl rfl rfl (news := ((putOut bk e).map B8)) (HM.rd (i := 0) rfl) (one_B8 _) (by omega) (by omega) rfl (by decide) ?_
          clear HF HM; intro a w43 A43 c43 HF HM hc43
          refine from_pures HF 1 3 (j := 4) [(8, .slice A43 (((writeUp b l k).length) + ((putOut bk e).length)) c43)] (by kernel_rfl) rfl ?_; clear HF; intro a HF
          refine from_done rfl ?_
          replace HF := HF.sub (σ' := [(8, .slice A43 (((writeUp b l k).length) + ((putOut bk e).length)) c43), (39, .bool false), (11, .int .i64 (putErr bk e : Int)), (10, .slice A35 ((putOut bk e).length) c35), (26, .bool true), (9, .int .i64 (k : Int)), (22, .bool false), (18, .bool false), (7, .int .i64 ((rowR l).2 : Int)), (5, .int .i64 0), (4, .slice none 0 0), (2, .pointer (some ⟨g2, 0, none⟩)), (1, .slice (some ⟨gA, oA, none⟩) n c)]) (by kernel_rfl)
          have hnA43 : ((writeUp b l k).length) + ((putOut bk e).length) = (writeUp b l (k + 1)).length := by rw [hup]; simp
          replace HM := HM.reRow (i := 1) (ys := (writeUp b l (k + 1)).map B8) rfl hnA43 (by rw [hup]; simp)
          rw [hnA43] at hc43
          replace HF := HF.as (t := 8) (u := .slice A43 ((writeUp b l (k + 1)).length) c43) rfl (by rw [hnA43])
          refine any_start (by kernel_rfl) (fun wS => Mem w wS [.row (.slice A35 ((putOut bk e).length) c35) ((putOut bk e).length) ((putOut bk e).map B8) 5 1, .row (.slice A43 ((writeUp b l (k + 1)).length) c43) ((writeUp b l (k + 1)).length) ((writeUp b l (k + 1)).map B8) 5 1, .blk g2 bk.cells 63]) [11] ?_
          replace HM := HM.drew
          have HS := HM.picks (fs' := [.row (.slice A35 ((putOut bk e).length) c35) ((putOut bk e).length) ((putOut bk e).map B8) 5 1, .row (.slice A43 ((writeUp b l (k + 1)).length) c43) ((writeUp b l (k + 1)).length) ((writeUp b l (k + 1)).map B8) 5 1, .blk g2 bk.cells 63]) [0, 1, 2] (by decide) rfl
          refine any_pures HF (fun _ => HS) (fun _ _ d _ _ h => by cases d <;> exact h) [0, 1, 5, 6] #[true, true, false, false, false, true, true, false, false, false, false, false] [(50, .int .i64 (k : Int)), (49, .slice (some ⟨gA, oA, none⟩) n c), (45, .int .i64 (k : Int)), (44, .slice (some ⟨gA, oA, none⟩) n c)] (by kernel_rfl) ?_; clear HF; intro a HF
          refine any_yl HF HS (i := 2) rfl rfl (d := 46) rfl (by decide) (by kernel_rfl) (fun _ _ _ h => h) (v := .pointer (some ⟨gA, oA + k * 11, none⟩)) ((Yl.indexAddr (ad := ⟨gA, oA, none⟩) (y := k) (sz := 11) rfl rfl rfl (hk26) (by kernel_rfl)).as (by rw [Addr.add_mid])) ?_; clear HF; intro a HF
          refine any_pures HF (fun _ => HS) (fun _ _ d _ _ h => by cases d <;> exact h) [3] #[true, true, true, true, false, true, true, false, false, false, false, false] [(47, .pointer (some ⟨gA, oA + k * 11, none⟩))] (by kernel_rfl) ?_; clear HF; intro a HF
          refine any_yl HF HS (i := 4) rfl rfl (d := 48) rfl (by decide) (by kernel_rfl) (fun _ _ _ h => h) (v := .int .i64 e.seq) (Yl.load1 rfl rfl (by kernel_rfl) (fun _ h => (by have := (h.old hr).partAt evL_len (k := k) (j := 0) (x := e) (hke) rfl; simpa using this))) ?_; clear HF; intro a HF
          refine any_yl HF HS (i := 7) rfl rfl (d := 51) rfl (by decide) (by kernel_rfl) (fun _ _ _ h => h) (v := .pointer (some ⟨gA, oA + k * 11, none⟩)) ((Yl.indexAddr (ad := ⟨gA, oA, none⟩) (y := k) (sz := 11) rfl rfl rfl (hk26) (by kernel_rfl)).as (by rw [Addr.add_mid])) ?_; clear HF; intro a HF
          refine any_pures HF (fun _ => HS) (fun _ _ d _ _ h => by cases d <;> exact h) [8] #[true, true, true, true, true, true, true, true, true, false, false, false] [(52, .pointer (some ⟨gA, oA + k * 11 + 1, none⟩))] (by kernel_rfl) ?_; clear HF; intro a HF
          refine any_yl HF HS (i := 9) rfl rfl (d := 53) rfl (by decide) (by kernel_rfl) (fun _ _ _ h => h) (v := .int .i64 e.time) (Yl.load1 rfl rfl (by kernel_rfl) (fun _ h => (h.old hr).partAt evL_len (k := k) (j := 1) (x := e) (hke) rfl)) ?_; clear HF; intro a HF
          refine any_yl HF HS (i := 10) rfl rfl (d := 54) rfl (by decide) (by kernel_rfl) (fun _ _ _ h => h) (v := .agg e.at.cells) ((Yl.build (vs := [(0, .int .i64 e.seq), (1, .int .i64 e.time)]) rfl (by kernel_rfl) (by kernel_rfl))) ?_; clear HF; intro a HF
          refine any_all [11] (by kernel_rfl) rfl ?_
          refine all_cons ?_ all_nil
          refine any_op HF (i := 11) rfl rfl ?_
          refine e_storeAll HF HM (i := 2) (cs := bk.cells) (ds := e.at.cells) rfl rfl rfl rfl ⟨(by kernel_rfl), (by kernel_rfl)⟩ rfl rfl (bs_one e.at) rfl ?_
          clear HM; intro w14_11 HM
          refine noS (by kernel_rfl) ?_
          refine any_done (by kernel_rfl) ?_
          replace HF := HF.sub (σ' := [(8, .slice A43 ((writeUp b l (k + 1)).length) c43), (39, .bool false), (11, .int .i64 (putErr bk e : Int)), (10, .slice A35 ((putOut bk e).length) c35), (26, .bool true), (9, .int .i64 (k : Int)), (22, .bool false), (18, .bool false), (7, .int .i64 ((rowR l).2 : Int)), (5, .int .i64 0), (4, .slice none 0 0), (2, .pointer (some ⟨g2, 0, none⟩)), (1, .slice (some ⟨gA, oA, none⟩) n c)]) (by kernel_rfl)
          refine from_start ?_
          refine from_pures HF 2 0 (j := 2) [(28, .int .i64 (IntKind.i64.wrap ((k : Int) + 1))), (27, .int .i64 (k : Int))] (by kernel_rfl) rfl ?_; clear HF; intro a HF
          replace HF := HF.as (t := 28) (u := .int .i64 ((k + 1 : Nat) : Int)) rfl (by rw [IntWalk.i64_in _ (by omega)]; simp)
          refine from_pures HF 1 2 (j := 3) [(9, .int .i64 ((k + 1 : Nat) : Int))] (by kernel_rfl) rfl ?_; clear HF; intro a HF
          refine from_done rfl ?_
          replace HF := HF.sub (σ' := [(9, .int .i64 ((k + 1 : Nat) : Int)), (8, .slice A43 ((writeUp b l (k + 1)).length) c43), (39, .bool false), (11, .int .i64 (putErr bk e : Int)), (10, .slice A35 ((putOut bk e).length) c35), (26, .bool true), (22, .bool false), (18, .bool false), (7, .int .i64 ((rowR l).2 : Int)), (5, .int .i64 0), (4, .slice none 0 0), (2, .pointer (some ⟨g2, 0, none⟩)), (1, .slice (some ⟨gA, oA, none⟩) n c)]) (by kernel_rfl)
          exact ⟨_, (by omega), k + 1, e.at, A43, c43, by omega, hnx, hc43, rfl, HF.sub (by kernel_rfl), HM.picks [1, 2] (by decide) rfl⟩
      · have HF := HF.as (t := 26) (u := .bool false) rfl (by rw [hb26])
        obtain rfl : n = k := by simp at hb26; omega
        refine cond_false HF rfl ?_
        refine wp_exit ?_
        refine wp_seq ?_
        refine from_start ?_
        refine from_pures HF 3 0 (j := 3) [(5, .int .i64 0), (4, .slice Ak ((writeUp b l n).length) ck), (55, .slice Ak ((writeUp b l n).length) ck)] (by kernel_rfl) rfl ?_; clear HF; intro a HF
        refine from_done rfl ?_
        replace HF := HF.sub (σ' := [(5, .int .i64 0), (4, .slice Ak ((writeUp b l n).length) ck), (26, .bool false), (9, .int .i64 (n : Int)), (8, .slice Ak ((writeUp b l n).length) ck), (22, .bool false), (18, .bool false), (7, .int .i64 ((rowR l).2 : Int)), (2, .pointer (some ⟨g2, 0, none⟩)), (1, .slice A n c)]) (by kernel_rfl)
        refine wp_ret ?_
        exact ret2 rfl HF (.tmp HF rfl) (.tmp HF rfl) (hat.done hr0 hrt hln (HM.own (i := 0) rfl) hck HM.below)
end Go.Proofs.YtpekelggcmgnnaaDoor

/- quantumlaw07.CodecTells answers true. -/
set_option linter.all false
namespace Go.Proofs.YtpekelggcmgnnaaDoor
open Go.RowKit
theorem lent_is (A : Option Addr) (n c : Nat) (l : List Nat) (w : World) (hr : Rd w w.heap.size 1 A n (l.map B8)) (hn : n ≤ 140737488351232) (hln : l.length = n) :
    Calls Tryd.prog 26 #[.slice A n c] w fun r w' => (∃ A c, r = .returned (.slice A n c) ∧ w'.ownsRow w.heap.size 5 1 (.slice A (n + 12) c) (n + 12) ((l ++ marks 12).map B8) ∧ n + 12 ≤ c) ∧ Below w.heap.size w w' := by
  have h := lent_any A n c l w hr hn hln
  unfold LentIs at h
  rwa [hln] at h
set_option maxRecDepth 100000 in
set_option maxHeartbeats 4000000 in
theorem tells_walk (b : Bs) (e : Ev) (he : e.Ok) (cpu : Nat) (hcpu : cpu < 256) (A : Option Addr) (n c : Nat) (l : List Nat) (x : Ev) (L er : Nat) (hq : takeR b cpu l = (x, L, er)) (B : Nat) (w : World) (hL : Laid B w) (hB : B ≤ w.heap.size) (hr : Rd w w.heap.size 1 A n (l.map B8)) (hc : n ≤ c) (hl : ∀ b ∈ l, b < 256) (hn : n ≤ 1000000000) (hln : l.length = n) :
    Calls Tryd.prog 22 #[.agg b.cells, .agg e.cells, .int .u8 (cpu : Int), .slice A n c] w (BoolPost w true) := by
  refine calls_enter (vs := [.agg b.cells, .agg e.cells, .int .u8 (cpu : Int), .slice A n c]) Tryd.func22 rfl rfl (by kernel_rfl) (σ0 := [(0, .agg b.cells), (1, .agg e.cells), (2, .int .u8 (cpu : Int)), (3, .slice A n c)]) rfl ?_
  intro a HF
  have HM := Mem.start w
  refine wp_seq ?_
  refine from_start ?_
  refine from_op HF (i := 0) rfl rfl ?_
  refine e_box HF HM (cs := b.cells) rfl rfl rfl rfl (by decide) ?_
  clear HF HM; intro a w4 g4 HF HM
  refine from_op HF (i := 1) rfl rfl ?_
  refine e_box HF HM (cs := e.cells) rfl rfl rfl rfl (by decide) ?_
  clear HF HM; intro a w5 g5 HF HM
  refine from_pures HF 1 2 (j := 3) [(8, .bool false)] (by kernel_rfl) rfl ?_; clear HF; intro a HF
  refine from_done rfl ?_
  replace HF := HF.sub (σ' := [(8, .bool false), (5, .pointer (some ⟨g5, 0, none⟩)), (4, .pointer (some ⟨g4, 0, none⟩)), (2, .int .u8 (cpu : Int)), (3, .slice A n c)]) (by kernel_rfl)
  refine wp_seq ?_
  refine from_start ?_
  refine from_pures HF 1 0 (j := 1) [(22, .slice A n c)] (by kernel_rfl) rfl ?_; clear HF; intro a HF
  refine from_op HF (i := 1) rfl rfl ?_
  refine e_call HF (vs := [.slice A n c]) rfl (by kernel_rfl) (by kernel_rfl) rfl (by decide) (lent_is _ n _ l _ (HM.old hr) (by omega) hln) ?_
  rintro _ w23 ⟨⟨A23, c23, rfl, ho, hc23⟩, hbw⟩
  refine ⟨_, rfl, ?_⟩
  replace HM := HM.callRow hbw ho
  clear HF; intro a HF
  refine from_pures HF 1 2 (j := 3) [(9, .slice A23 n c23)] (by kernel_rfl) rfl ?_; clear HF; intro a HF
  refine from_done rfl ?_
  replace HF := HF.sub (σ' := [(9, .slice A23 n c23), (8, .bool false), (5, .pointer (some ⟨g5, 0, none⟩)), (4, .pointer (some ⟨g4, 0, none⟩)), (2, .int .u8 (cpu : Int)), (3, .slice A n c)]) (by kernel_rfl)
  refine wp_seq ?_
  refine from_start ?_
  refine from_yl (S := fun wS => Mem w wS _) HF HM (i := 0) rfl rfl (d := 25) rfl (by decide) (v := .agg b.cells) (Yl.loadS rfl rfl ⟨(by kernel_rfl), (by kernel_rfl)⟩ rfl (fun _ h => range_of_block (h.blk (i := 2) rfl))) ?_; clear HF; intro a HF
  refine from_yl (S := fun wS => Mem w wS _) HF HM (i := 1) rfl rfl (d := 26) rfl (by decide) (v := .agg e.cells) (Yl.loadS rfl rfl ⟨(by kernel_rfl), (by kernel_rfl)⟩ rfl (fun _ h => range_of_block (h.blk (i := 1) rfl))) ?_; clear HF; intro a HF
  refine from_op HF (i := 2) rfl rfl ?_
  refine e_call HF (vs := [.agg b.cells, .agg e.cells]) rfl (by kernel_rfl) (by kernel_rfl) rfl (by decide) (size_is b e he B _ (hL.mem HM hB) (HM.le hB) rfl rfl) ?_
  rintro _ w27 ⟨rfl, hbw⟩
  refine ⟨_, rfl, ?_⟩
  replace HM := HM.call hbw
  clear HF; intro a HF
  refine from_pures HF 5 3 (j := 8) [(11, .int .i64 (putErr b e : Int)), (10, .int .i64 ((putOut b e).length : Int)), (29, .int .i64 (putErr b e : Int)), (28, .int .i64 ((putOut b e).length : Int)), (24, .tuple #[.int .i64 ((putOut b e).length : Int), .int .i64 (putErr b e : Int)])] (by kernel_rfl) rfl ?_; clear HF; intro a HF
  refine from_done rfl ?_
  replace HF := HF.sub (σ' := [(11, .int .i64 (putErr b e : Int)), (10, .int .i64 ((putOut b e).length : Int)), (9, .slice A23 n c23), (8, .bool false), (5, .pointer (some ⟨g5, 0, none⟩)), (4, .pointer (some ⟨g4, 0, none⟩)), (2, .int .u8 (cpu : Int)), (3, .slice A n c)]) (by kernel_rfl)
  refine wp_seq ?_
  refine from_start ?_
  refine from_yl (S := fun wS => Mem w wS _) HF HM (i := 0) rfl rfl (d := 31) rfl (by decide) (v := .agg b.cells) (Yl.loadS rfl rfl ⟨(by kernel_rfl), (by kernel_rfl)⟩ rfl (fun _ h => range_of_block (h.blk (i := 2) rfl))) ?_; clear HF; intro a HF
  refine from_yl (S := fun wS => Mem w wS _) HF HM (i := 1) rfl rfl (d := 32) rfl (by decide) (v := .agg e.cells) (Yl.loadS rfl rfl ⟨(by kernel_rfl), (by kernel_rfl)⟩ rfl (fun _ h => range_of_block (h.blk (i := 1) rfl))) ?_; clear HF; intro a HF
  refine from_op HF (i := 2) rfl rfl ?_
  refine e_call HF (vs := [.agg b.cells, .agg e.cells]) rfl (by kernel_rfl) (by kernel_rfl) rfl (by decide) (put_is b e he B _ (hL.mem HM hB) (HM.le hB) rfl rfl) ?_
  rintro _ w33 ⟨⟨A33, c33, rfl, ho, hc33⟩, hbw⟩
  refine ⟨_, rfl, ?_⟩
  replace HM := HM.callRow hbw ho
  clear HF; intro a HF
  refine from_pures HF 5 3 (j := 8) [(13, .int .i64 (putErr b e : Int)), (12, .slice A33 ((putOut b e).length) c33), (35, .int .i64 (putErr b e : Int)), (34, .slice A33 ((putOut b e).length) c33), (30, .tuple #[.slice A33 ((putOut b e).length) c33, .int .i64 (putErr b e : Int)])] (by kernel_rfl) rfl ?_; clear HF; intro a HF
  refine from_done rfl ?_
  replace HF := HF.sub (σ' := [(13, .int .i64 (putErr b e : Int)), (12, .slice A33 ((putOut b e).length) c33), (11, .int .i64 (putErr b e : Int)), (10, .int .i64 ((putOut b e).length : Int)), (9, .slice A23 n c23), (8, .bool false), (5, .pointer (some ⟨g5, 0, none⟩)), (4, .pointer (some ⟨g4, 0, none⟩)), (2, .int .u8 (cpu : Int)), (3, .slice A n c)]) (by kernel_rfl)
  refine wp_seq ?_
  refine from_start ?_
  refine from_yl (S := fun wS => Mem w wS _) HF HM (i := 0) rfl rfl (d := 37) rfl (by decide) (v := .agg b.cells) (Yl.loadS rfl rfl ⟨(by kernel_rfl), (by kernel_rfl)⟩ rfl (fun _ h => range_of_block (h.blk (i := 3) rfl))) ?_; clear HF; intro a HF
  refine from_yl (S := fun wS => Mem w wS _) HF HM (i := 1) rfl rfl (d := 38) rfl (by decide) (v := .agg e.cells) (Yl.loadS rfl rfl ⟨(by kernel_rfl), (by kernel_rfl)⟩ rfl (fun _ h => range_of_block (h.blk (i := 2) rfl))) ?_; clear HF; intro a HF
  refine from_op HF (i := 2) rfl rfl ?_
  refine e_call HF (vs := [.agg b.cells, .agg e.cells]) rfl (by kernel_rfl) (by kernel_rfl) rfl (by decide) (put07_any b e he _) ?_
  rintro _ w39 ⟨⟨A39, c39, rfl, ho, hc39⟩, hbw⟩
  refine ⟨_, rfl, ?_⟩
  replace HM := HM.callRow hbw ho
  clear HF; intro a HF
  refine from_pures HF 5 3 (j := 8) [(15, .int .i64 (putErr b e : Int)), (14, .slice A39 ((putOut b e).length) c39), (41, .int .i64 (putErr b e : Int)), (40, .slice A39 ((putOut b e).length) c39), (36, .tuple #[.slice A39 ((putOut b e).length) c39, .int .i64 (putErr b e : Int)])] (by kernel_rfl) rfl ?_; clear HF; intro a HF
  refine from_done rfl ?_
  replace HF := HF.sub (σ' := [(15, .int .i64 (putErr b e : Int)), (14, .slice A39 ((putOut b e).length) c39), (13, .int .i64 (putErr b e : Int)), (12, .slice A33 ((putOut b e).length) c33), (11, .int .i64 (putErr b e : Int)), (10, .int .i64 ((putOut b e).length : Int)), (9, .slice A23 n c23), (8, .bool false), (5, .pointer (some ⟨g5, 0, none⟩)), (4, .pointer (some ⟨g4, 0, none⟩)), (2, .int .u8 (cpu : Int)), (3, .slice A n c)]) (by kernel_rfl)
  refine wp_seq ?_
  refine from_start ?_
  refine from_yl (S := fun wS => Mem w wS _) HF HM (i := 0) rfl rfl (d := 43) rfl (by decide) (v := .agg b.cells) (Yl.loadS rfl rfl ⟨(by kernel_rfl), (by kernel_rfl)⟩ rfl (fun _ h => range_of_block (h.blk (i := 4) rfl))) ?_; clear HF; intro a HF
  refine from_pures HF 2 1 (j := 3) [(45, .slice A23 n c23), (44, .int .u8 (cpu : Int))] (by kernel_rfl) rfl ?_; clear HF; intro a HF
  refine from_op HF (i := 3) rfl rfl ?_
  refine e_call HF (vs := [.agg b.cells, .int .u8 (cpu : Int), .slice A23 n c23]) rfl (by kernel_rfl) (by kernel_rfl) rfl (by decide) (take_is b cpu hcpu _ n _ l B _ (hL.mem HM hB) (HM.le hB) ((HM.rd (i := 2) rfl).pre hln (by omega)) (by omega) hl (by omega) hq) ?_
  rintro _ w46 ⟨rfl, hbw⟩
  refine ⟨_, rfl, ?_⟩
  replace HM := HM.call hbw
  clear HF; intro a HF
  refine from_pures HF 4 4 (j := 8) [(49, .int .i64 (er : Int)), (48, .int .i64 (L : Int)), (47, .agg x.cells), (42, .tuple #[.agg x.cells, .int .i64 (L : Int), .int .i64 (er : Int)])] (by kernel_rfl) rfl ?_; clear HF; intro a HF
  refine from_op HF (i := 8) rfl rfl ?_
  refine e_alloc HF HM (cs := #[.int .i64 0, .int .i64 0, .int .u8 0, .int .u8 0, .int .i64 0, .int .i64 0, .int .i64 0, .int .i64 0, .int .i64 0, .int .u64 0, .int .i64 0]) rfl (by kernel_rfl) rfl (by decide) ?_
  clear HF HM; intro a w16 g16 HF HM
  refine from_op HF (i := 9) rfl rfl ?_
  refine e_storeAll HF HM (i := 0) (cs := #[.int .i64 0, .int .i64 0, .int .u8 0, .int .u8 0, .int .i64 0, .int .i64 0, .int .i64 0, .int .i64 0, .int .i64 0, .int .u64 0, .int .i64 0]) (ds := x.cells) rfl rfl rfl rfl ⟨(by kernel_rfl), (by kernel_rfl)⟩ rfl rfl (ev_one x) rfl ?_
  clear HM; intro w5_9 HM
  refine from_pures HF 2 10 (j := 12) [(18, .int .i64 (er : Int)), (17, .int .i64 (L : Int))] (by kernel_rfl) rfl ?_; clear HF; intro a HF
  refine from_done rfl ?_
  replace HF := HF.sub (σ' := [(18, .int .i64 (er : Int)), (17, .int .i64 (L : Int)), (16, .pointer (some ⟨g16, 0, none⟩)), (15, .int .i64 (putErr b e : Int)), (14, .slice A39 ((putOut b e).length) c39), (13, .int .i64 (putErr b e : Int)), (12, .slice A33 ((putOut b e).length) c33), (11, .int .i64 (putErr b e : Int)), (10, .int .i64 ((putOut b e).length : Int)), (9, .slice A23 n c23), (8, .bool false), (5, .pointer (some ⟨g5, 0, none⟩)), (4, .pointer (some ⟨g4, 0, none⟩)), (2, .int .u8 (cpu : Int)), (3, .slice A n c)]) (by kernel_rfl)
  refine wp_seq ?_
  refine from_start ?_
  refine from_yl (S := fun wS => Mem w wS _) HF HM (i := 0) rfl rfl (d := 51) rfl (by decide) (v := .agg b.cells) (Yl.loadS rfl rfl ⟨(by kernel_rfl), (by kernel_rfl)⟩ rfl (fun _ h => range_of_block (h.blk (i := 5) rfl))) ?_; clear HF; intro a HF
  refine from_pures HF 2 1 (j := 3) [(53, .slice A n c), (52, .int .u8 (cpu : Int))] (by kernel_rfl) rfl ?_; clear HF; intro a HF
  refine from_op HF (i := 3) rfl rfl ?_
  refine e_call HF (vs := [.agg b.cells, .int .u8 (cpu : Int), .slice A n c]) rfl (by kernel_rfl) (by kernel_rfl) rfl (by decide) (take07_is b cpu hcpu _ n _ l _ (HM.old hr) hc hl (by omega) hln hq) ?_
  rintro _ w54 ⟨rfl, hbw⟩
  refine ⟨_, rfl, ?_⟩
  replace HM := HM.call hbw
  clear HF; intro a HF
  refine from_pures HF 4 4 (j := 8) [(57, .int .i64 (er : Int)), (56, .int .i64 (L : Int)), (55, .agg x.cells), (50, .tuple #[.agg x.cells, .int .i64 (L : Int), .int .i64 (er : Int)])] (by kernel_rfl) rfl ?_; clear HF; intro a HF
  refine from_op HF (i := 8) rfl rfl ?_
  refine e_alloc HF HM (cs := #[.int .i64 0, .int .i64 0, .int .u8 0, .int .u8 0, .int .i64 0, .int .i64 0, .int .i64 0, .int .i64 0, .int .i64 0, .int .u64 0, .int .i64 0]) rfl (by kernel_rfl) rfl (by decide) ?_
  clear HF HM; intro a w19 g19 HF HM
  refine from_op HF (i := 9) rfl rfl ?_
  refine e_storeAll HF HM (i := 0) (cs := #[.int .i64 0, .int .i64 0, .int .u8 0, .int .u8 0, .int .i64 0, .int .i64 0, .int .i64 0, .int .i64 0, .int .i64 0, .int .u64 0, .int .i64 0]) (ds := x.cells) rfl rfl rfl rfl ⟨(by kernel_rfl), (by kernel_rfl)⟩ rfl rfl (ev_one x) rfl ?_
  clear HM; intro w6_9 HM
  refine from_pures HF 2 10 (j := 12) [(21, .int .i64 (er : Int)), (20, .int .i64 (L : Int))] (by kernel_rfl) rfl ?_; clear HF; intro a HF
  refine from_done rfl ?_
  replace HF := HF.sub (σ' := [(21, .int .i64 (er : Int)), (20, .int .i64 (L : Int)), (19, .pointer (some ⟨g19, 0, none⟩)), (18, .int .i64 (er : Int)), (17, .int .i64 (L : Int)), (16, .pointer (some ⟨g16, 0, none⟩)), (15, .int .i64 (putErr b e : Int)), (14, .slice A39 ((putOut b e).length) c39), (13, .int .i64 (putErr b e : Int)), (12, .slice A33 ((putOut b e).length) c33), (11, .int .i64 (putErr b e : Int)), (10, .int .i64 ((putOut b e).length : Int)), (9, .slice A23 n c23), (8, .bool false), (5, .pointer (some ⟨g5, 0, none⟩)), (4, .pointer (some ⟨g4, 0, none⟩)), (2, .int .u8 (cpu : Int)), (3, .slice A n c)]) (by kernel_rfl)
  refine wp_seq ?_
  refine from_start ?_
  refine from_pures HF 3 0 (j := 3) [(60, .bool (((putErr b e : Int) : Int) == ((putErr b e : Int) : Int))), (59, .int .i64 (putErr b e : Int)), (58, .int .i64 (putErr b e : Int))] (by kernel_rfl) rfl ?_; clear HF; intro a HF
  replace HF := HF.as (t := 60) (u := .bool true) rfl (by simp)
  refine from_pures HF 4 3 (j := 7) [(64, .bool (((putErr b e : Int) : Int) == ((putErr b e : Int) : Int))), (63, .int .i64 (putErr b e : Int)), (62, .int .i64 (putErr b e : Int)), (61, .bool true)] (by kernel_rfl) rfl ?_; clear HF; intro a HF
  replace HF := HF.as (t := 64) (u := .bool true) rfl (by simp)
  refine from_pures HF 4 7 (j := 11) [(68, .slice A39 ((putOut b e).length) c39), (67, .int .i64 ((putOut b e).length : Int)), (66, .bool true), (65, .bool true)] (by kernel_rfl) rfl ?_; clear HF; intro a HF
  refine from_yl (S := fun wS => Mem w wS _) HF HM (i := 11) rfl rfl (d := 69) rfl (by decide) (v := .int .i64 (((putOut b e).length : Nat) : Int)) (Yl.len rfl rfl (by kernel_rfl)) ?_; clear HF; intro a HF
  refine from_pures HF 1 12 (j := 13) [(70, .bool ((((putOut b e).length : Int) : Int) == ((((putOut b e).length : Nat) : Int) : Int)))] (by kernel_rfl) rfl ?_; clear HF; intro a HF
  replace HF := HF.as (t := 70) (u := .bool true) rfl (by simp)
  refine from_pures HF 3 13 (j := 16) [(73, .slice A33 ((putOut b e).length) c33), (72, .bool true), (71, .bool true)] (by kernel_rfl) rfl ?_; clear HF; intro a HF
  refine from_yl (S := fun wS => Mem w wS _) HF HM (i := 16) rfl rfl (d := 74) rfl (by decide) (v := .string (bstr (putOut b e))) (Yl.str rfl rfl (fun _ h => h.rd (i := 3) rfl)) ?_; clear HF; intro a HF
  refine from_pures HF 1 17 (j := 18) [(75, .slice A39 ((putOut b e).length) c39)] (by kernel_rfl) rfl ?_; clear HF; intro a HF
  refine from_yl (S := fun wS => Mem w wS _) HF HM (i := 18) rfl rfl (d := 76) rfl (by decide) (v := .string (bstr (putOut b e))) (Yl.str rfl rfl (fun _ h => h.rd (i := 2) rfl)) ?_; clear HF; intro a HF
  refine from_pures HF 1 19 (j := 20) [(77, .bool (((bstr (putOut b e))).toList == ((bstr (putOut b e))).toList))] (by kernel_rfl) rfl ?_; clear HF; intro a HF
  replace HF := HF.as (t := 77) (u := .bool true) rfl (by simp)
  refine from_pures HF 5 20 (j := 25) [(82, .bool (((er : Int) : Int) == ((er : Int) : Int))), (81, .int .i64 (er : Int)), (80, .int .i64 (er : Int)), (79, .bool true), (78, .bool true)] (by kernel_rfl) rfl ?_; clear HF; intro a HF
  replace HF := HF.as (t := 82) (u := .bool true) rfl (by simp)
  refine from_pures HF 2 25 (j := 27) [(84, .bool true), (83, .bool true)] (by kernel_rfl) rfl ?_; clear HF; intro a HF
  refine from_yl (S := fun wS => Mem w wS _) HF HM (i := 27) rfl rfl (d := 85) rfl (by decide) (v := .agg x.cells) (Yl.loadS rfl rfl ⟨(by kernel_rfl), (by kernel_rfl)⟩ rfl (fun _ h => range_of_block (h.blk (i := 1) rfl))) ?_; clear HF; intro a HF
  refine from_yl (S := fun wS => Mem w wS _) HF HM (i := 28) rfl rfl (d := 86) rfl (by decide) (v := .agg x.cells) (Yl.loadS rfl rfl ⟨(by kernel_rfl), (by kernel_rfl)⟩ rfl (fun _ h => range_of_block (h.blk (i := 0) rfl))) ?_; clear HF; intro a HF
  refine from_yl (S := fun wS => Mem w wS _) HF HM (i := 29) rfl rfl (d := 87) rfl (by decide) (v := .bool (decide (x = x))) (Yl.eqlEv (x := x) (y := x) rfl rfl rfl (by kernel_rfl)) ?_; clear HF; intro a HF
  replace HF := HF.as (t := 87) (u := .bool true) rfl (by simp)
  refine from_pures HF 5 30 (j := 35) [(92, .bool (((L : Int) : Int) == ((L : Int) : Int))), (91, .int .i64 (L : Int)), (90, .int .i64 (L : Int)), (89, .bool true), (88, .bool true)] (by kernel_rfl) rfl ?_; clear HF; intro a HF
  replace HF := HF.as (t := 92) (u := .bool true) rfl (by simp)
  refine from_pures HF 4 35 (j := 39) [(96, .slice A n c), (95, .slice A23 n c23), (94, .bool true), (93, .bool true)] (by kernel_rfl) rfl ?_; clear HF; intro a HF
  refine from_op HF (i := 39) rfl rfl ?_
  refine e_call HF (vs := [.slice A23 n c23, .slice A n c]) rfl (by kernel_rfl) (by kernel_rfl) rfl (by decide) (kept_any _ _ n _ _ l _ (HM.rd (i := 4) rfl) hc23 (HM.old hr) (by omega) hln) ?_
  rintro _ w97 ⟨rfl, hbw⟩
  refine ⟨_, rfl, ?_⟩
  replace HM := HM.call hbw
  clear HF; intro a HF
  refine from_pures HF 2 40 (j := 42) [(8, .bool true), (98, .bool true)] (by kernel_rfl) rfl ?_; clear HF; intro a HF
  refine from_done rfl ?_
  replace HF := HF.sub (σ' := [(8, .bool true), (19, .pointer (some ⟨g19, 0, none⟩)), (16, .pointer (some ⟨g16, 0, none⟩)), (9, .slice A23 n c23), (5, .pointer (some ⟨g5, 0, none⟩)), (4, .pointer (some ⟨g4, 0, none⟩)), (2, .int .u8 (cpu : Int)), (3, .slice A n c)]) (by kernel_rfl)
  replace HM := HM.picks (fs' := [.blk g19 x.cells 64, .blk g16 x.cells 37, .row (.slice A23 (n + 12) c23) (n + 12) ((l ++ marks 12).map B8) 5 1, .blk g5 e.cells 37, .blk g4 b.cells 23]) [0, 1, 4, 5, 6] (by decide) rfl
  refine wp_ret ?_
  exact ret1 rfl HF (.tmp HF rfl) (⟨rfl, HM.below⟩)
theorem tells_any (b : Bs) (e : Ev) (he : e.Ok) (cpu : Nat) (hcpu : cpu < 256) (A : Option Addr) (n c : Nat) (l : List Nat) (B : Nat) (w : World) (hL : Laid B w) (hB : B ≤ w.heap.size) (hr : Rd w w.heap.size 1 A n (l.map B8)) (hc : n ≤ c) (hl : ∀ b ∈ l, b < 256) (hn : n ≤ 1000000000) :
    Calls Tryd.prog 22 #[.agg b.cells, .agg e.cells, .int .u8 (cpu : Int), .slice A n c] w (BoolPost w true) :=
  tells_walk b e he cpu hcpu A n c l _ _ _ rfl B w hL hB hr hc hl hn (by simpa using hr.len)
set_option maxRecDepth 100000 in
set_option maxHeartbeats 4000000 in
theorem codecTells_any (b : Bs) (e : Ev) (he : e.Ok) (cpu : Nat) (hcpu : cpu < 256) (A : Option Addr) (n c : Nat) (l : List Nat) (B : Nat) (w : World) (hL : Laid B w) (hB : B ≤ w.heap.size) (hr : n ≤ 300 → Rd w w.heap.size 1 A n (l.map B8)) (hc : n ≤ c) (hl : n ≤ 300 → ∀ b ∈ l, b < 256) :
    Calls Tryd.prog 8 #[.agg b.cells, .agg e.cells, .int .u8 (cpu : Int), .slice A n c] w (TruePost w) := by
  refine calls_enter (vs := [.agg b.cells, .agg e.cells, .int .u8 (cpu : Int), .slice A n c]) Tryd.func8 rfl rfl (by kernel_rfl) (σ0 := [(0, .agg b.cells), (1, .agg e.cells), (2, .int .u8 (cpu : Int)), (3, .slice A n c)]) rfl ?_
  intro a HF
  have HM := Mem.start w
  refine wp_seq ?_
  refine from_start ?_
  refine from_op HF (i := 0) rfl rfl ?_
  refine e_box HF HM (cs := b.cells) rfl rfl rfl rfl (by decide) ?_
  clear HF HM; intro a w4 g4 HF HM
  refine from_op HF (i := 1) rfl rfl ?_
  refine e_box HF HM (cs := e.cells) rfl rfl rfl rfl (by decide) ?_
  clear HF HM; intro a w5 g5 HF HM
  refine from_pures HF 1 2 (j := 3) [(8, .bool false)] (by kernel_rfl) rfl ?_; clear HF; intro a HF
  refine from_done rfl ?_
  replace HF := HF.sub (σ' := [(8, .bool false), (5, .pointer (some ⟨g5, 0, none⟩)), (4, .pointer (some ⟨g4, 0, none⟩)), (2, .int .u8 (cpu : Int)), (3, .slice A n c)]) (by kernel_rfl)
  refine wp_seq ?_
  refine from_start ?_
  refine from_pures HF 1 0 (j := 1) [(9, .slice A n c)] (by kernel_rfl) rfl ?_; clear HF; intro a HF
  refine from_yl (S := fun wS => Mem w wS _) HF HM (i := 1) rfl rfl (d := 10) rfl (by decide) (v := .int .i64 ((n : Nat) : Int)) (Yl.len rfl rfl (by kernel_rfl)) ?_; clear HF; intro a HF
  refine from_pures HF 2 2 (j := 4) [(12, .bool (decide ((((n : Nat) : Int) : Int) > (300 : Int)))), (11, .bool (decide ((((n : Nat) : Int) : Int) > (300 : Int))))] (by kernel_rfl) rfl ?_; clear HF; intro a HF
  rcases Bool.eq_false_or_eq_true (decide ((((n : Nat) : Int) : Int) > (300 : Int))) with hb12 | hb12
  · have HF := HF.as (t := 12) (u := .bool true) rfl (by rw [hb12])
    have hsz : 300 < n := by have := of_decide_eq_true hb12; omega
    refine from_pures HF 7 4 (j := 11) [(19, .bool true), (18, .bool true), (17, undef), (16, undef), (15, undef), (14, undef), (13, undef)] (by kernel_rfl) rfl ?_; clear HF; intro a HF
    refine from_op HF (i := 11) rfl rfl ?_
    refine e_call HF (vs := []) rfl (by kernel_rfl) (by kernel_rfl) rfl (by decide) (awake_any B _ (hL.mem HM hB) (HM.le hB)) ?_
    rintro _ w20 ⟨rfl, hbw⟩
    refine ⟨_, rfl, ?_⟩
    replace HM := HM.call hbw
    clear HF; intro a HF
    refine from_pures HF 2 12 (j := 14) [(8, .bool true), (21, .bool true)] (by kernel_rfl) rfl ?_; clear HF; intro a HF
    refine from_done rfl ?_
    replace HF := HF.sub (σ' := [(8, .bool true)]) (by kernel_rfl)
    replace HM := HM.picks (fs' := []) [] (by decide) rfl
    refine wp_ret ?_
    exact ret1 rfl HF (.tmp HF rfl) (⟨rfl, HM.below⟩)
  · have HF := HF.as (t := 12) (u := .bool false) rfl (by rw [hb12])
    have hsz : n ≤ 300 := by have := of_decide_eq_false hb12; omega
    refine from_yl (S := fun wS => Mem w wS _) HF HM (i := 4) rfl rfl (d := 13) rfl (by decide) (v := .agg b.cells) (Yl.loadS rfl rfl ⟨(by kernel_rfl), (by kernel_rfl)⟩ rfl (fun _ h => range_of_block (h.blk (i := 1) rfl))) ?_; clear HF; intro a HF
    refine from_yl (S := fun wS => Mem w wS _) HF HM (i := 5) rfl rfl (d := 14) rfl (by decide) (v := .agg e.cells) (Yl.loadS rfl rfl ⟨(by kernel_rfl), (by kernel_rfl)⟩ rfl (fun _ h => range_of_block (h.blk (i := 0) rfl))) ?_; clear HF; intro a HF
    refine from_pures HF 2 6 (j := 8) [(16, .slice A n c), (15, .int .u8 (cpu : Int))] (by kernel_rfl) rfl ?_; clear HF; intro a HF
    refine from_op HF (i := 8) rfl rfl ?_
    refine e_call HF (vs := [.agg b.cells, .agg e.cells, .int .u8 (cpu : Int), .slice A n c]) rfl (by kernel_rfl) (by kernel_rfl) rfl (by decide) (tells_any b e he cpu hcpu A n c l B _ (hL.mem HM hB) (HM.le hB) (HM.old (hr (by omega))) hc (hl (by omega)) (by omega)) ?_
    rintro _ w17 ⟨rfl, hbw⟩
    refine ⟨_, rfl, ?_⟩
    replace HM := HM.call hbw
    clear HF; intro a HF
    refine from_pures HF 2 9 (j := 11) [(19, .bool true), (18, .bool true)] (by kernel_rfl) rfl ?_; clear HF; intro a HF
    refine from_op HF (i := 11) rfl rfl ?_
    refine e_call HF (vs := []) rfl (by kernel_rfl) (by kernel_rfl) rfl (by decide) (awake_any B _ (hL.mem HM hB) (HM.le hB)) ?_
    rintro _ w20 ⟨rfl, hbw⟩
    refine ⟨_, rfl, ?_⟩
    replace HM := HM.call hbw
    clear HF; intro a HF
    refine from_pures HF 2 12 (j := 14) [(8, .bool true), (21, .bool true)] (by kernel_rfl) rfl ?_; clear HF; intro a HF
    refine from_done rfl ?_
    replace HF := HF.sub (σ' := [(8, .bool true)]) (by kernel_rfl)
    replace HM := HM.picks (fs' := []) [] (by decide) rfl
    refine wp_ret ?_
    exact ret1 rfl HF (.tmp HF rfl) (⟨rfl, HM.below⟩)
end Go.Proofs.YtpekelggcmgnnaaDoor

/- quantumlaw07.rows answers true. -/
set_option linter.all false
namespace Go.Proofs.YtpekelggcmgnnaaDoor
open Go.RowKit
theorem turned_is (A : Option Addr) (n c : Nat) (l : List Ev) (w : World) (hr : Rd w w.heap.size 11 A n (l.flatMap evL)) (hn : n ≤ 1000000000) (hln : l.length = n) :
    Calls Tryd.prog 28 #[.slice A n c] w fun r w' => (∃ A c, r = .returned (.slice A n c) ∧ w'.ownsRow w.heap.size 64 11 (.slice A n c) n (l.flatMap evL) ∧ n ≤ c) ∧ Below w.heap.size w w' := by
  have h := turned_any A n c l w hr hn hln
  unfold TurnIs at h
  rwa [hln] at h
theorem row07_is (A : Option Addr) (n c : Nat) (l : List Ev) (hok : ∀ e ∈ l, e.Ok) (w : World) (hr : Rd w w.heap.size 11 A n (l.flatMap evL)) (hn : n ≤ 140737488355328) (hln : l.length = n) {i : Int} {er : Nat} (h : rowR l = (i, er)) :
    Calls Tryd.prog 27 #[.slice A n c] w fun r w' => r = .returned (.tuple #[.int .i64 i, .int .i64 (er : Int)]) ∧ Below w.heap.size w w' :=
  (row07_any A n c l hok w hr hn hln).mono fun _ _ p => ⟨by rw [p.ret, h], p.below⟩
theorem read07_is (b : Bs) (cpu : Nat) (hcpu : cpu < 256) (m : Int) (hm : I64 m) (A : Option Addr) (n c : Nat) (l : List Nat) (w : World) (hr : Rd w w.heap.size 1 A n (l.map B8)) (hc : n ≤ c) (hl : ∀ b ∈ l, b < 256) (hn : n ≤ 1000000000) (hln : l.length = n) {es : List Ev} {L er : Nat} (h : readR b cpu m l = (es, L, er)) :
    Calls Tryd.prog 30 #[.agg b.cells, .int .u8 (cpu : Int), .int .i64 m, .slice A n c] w fun r w' => (∃ A c, r = .returned (.tuple #[.slice A es.length c, .int .i64 (L : Int), .int .i64 (er : Int)]) ∧ w'.ownsRow w.heap.size 64 11 (.slice A es.length c) es.length (es.flatMap evL) ∧ es.length ≤ c) ∧ Below w.heap.size w w' := by
  have h2 := read07_any b cpu hcpu m hm A n c l w hr hc hl hn hln
  unfold EvsIs at h2
  rwa [h] at h2
theorem ev_ones (l : List Ev) : ∀ u ∈ l.flatMap evL, u.oneCell' = true := by
  intro u hu
  obtain ⟨e, _, he⟩ := List.mem_flatMap.1 hu
  exact ev_one e u he
theorem putAt_cell0 {α : Type} (f : α → List Value) (sz : Nat) (hf : ∀ x, (f x).length = sz) (l : List α) (k : Nat) (y x : α) (hk : l[k]? = some y) (ho : 0 < sz) (v : Value) (hx : f x = (f y).set 0 v) : putAt (l.flatMap f) (k * sz) [v] = (l.set k x).flatMap f := putAt_cell f sz hf l k y x hk 0 ho v hx
theorem readGo_most (cpu : Nat) : ∀ (n : Nat) (b : Bs) (p : Option Ev) (l : List Nat), (readGo cpu n b p l).1.length ≤ (readGo cpu n b p l).2.1 ∧ (readGo cpu n b p l).2.1 ≤ l.length
  | 0, _, _, _ => by simp [readGo]
  | n + 1, b, p, l => by
    have ht := takeR_len b cpu l
    rw [readGo]
    split
    · simp
    · split
      · simp
      · split
        · simp
        · rename_i h1 h2 h3
          have := readGo_most cpu n (takeR b cpu l).1.at (some (takeR b cpu l).1) (l.drop (takeR b cpu l).2.1)
          have h4 := ht.2 (by omega)
          rw [List.length_drop] at this
          simp only [List.length_cons]
          omega
theorem readR_most {b : Bs} {cpu : Nat} {m : Int} {l : List Nat} {es : List Ev} {L er : Nat} (h : readR b cpu m l = (es, L, er)) : es.length ≤ l.length := by
  unfold readR at h
  split at h
  · cases h; simp
  · split at h
    · cases h; simp
    · have := readGo_most cpu m.toNat b none l
      rw [h] at this
      simp only at this
      omega
theorem writeOut_most (b : Bs) (l : List Ev) : (writeOut b l).length ≤ 61 * l.length := by
  unfold writeOut
  split
  · exact recsLen7 l b
  · simp
set_option maxRecDepth 100000 in
set_option maxHeartbeats 4000000 in
theorem rows_walk (b : Bs) (A : Option Addr) (n c cpu : Nat) (m : Int) (A2 : Option Addr) (n2 c2 : Nat) (es : List Ev) (l : List Nat) (hcpu : cpu < 256) (hm : I64 m) (hok : ∀ x ∈ es, x.Ok) (hc2 : n2 ≤ c2) (hl : ∀ b ∈ l, b < 256)
    (ri : Int) (rer : Nat) (hrow : rowR es = (ri, rer)) (rs : List Ev) (L er : Nat) (hq : readR b cpu m l = (rs, L, er)) (hrs : rs.length ≤ l.length) (hwl : (writeOut b es).length ≤ 61 * es.length) (hln : es.length = n) (hln2 : l.length = n2) (hn : n ≤ 1000000) (hn2 : n2 ≤ 1000000)
    (B : Nat) (w : World) (hL : Laid B w) (hB : B ≤ w.heap.size) (hr : Rd w w.heap.size 11 A n (es.flatMap evL)) (hr2 : Rd w w.heap.size 1 A2 n2 (l.map B8)) :
    Calls Tryd.prog 11 #[.agg (rowsCells b A n c cpu m A2 n2 c2)] w (BoolPost w true) := by
  refine calls_enter (vs := [.agg (rowsCells b A n c cpu m A2 n2 c2)]) Tryd.func11 rfl rfl (by kernel_rfl) (σ0 := [(0, .agg (rowsCells b A n c cpu m A2 n2 c2))]) rfl ?_
  intro a HF
  have HM := Mem.start w
  refine wp_seq ?_
  refine from_start ?_
  refine from_op HF (i := 0) rfl rfl ?_
  refine e_box HF HM (cs := (rowsCells b A n c cpu m A2 n2 c2)) rfl rfl rfl rfl (by decide) ?_
  clear HF HM; intro a w1 g1 HF HM
  refine from_pures HF 1 1 (j := 2) [(2, .bool false)] (by kernel_rfl) rfl ?_; clear HF; intro a HF
  refine from_done rfl ?_
  replace HF := HF.sub (σ' := [(2, .bool false), (1, .pointer (some ⟨g1, 0, none⟩))]) (by kernel_rfl)
  refine wp_seq ?_
  refine any_start (by kernel_rfl) (fun wS => Mem w wS [.blk g1 (rowsCells b A n c cpu m A2 n2 c2) 27]) [] ?_
  replace HM := HM.drew
  have HS := HM.picks (fs' := [.blk g1 (rowsCells b A n c cpu m A2 n2 c2) 27]) [0] (by decide) rfl
  refine any_pures HF (fun _ => HS) (fun _ _ d _ _ h => by cases d <;> exact h) [1, 4] #[false, true, false, false, true, false, false, false, false] [(25, .pointer (some ⟨g1, 5, none⟩)), (22, .pointer (some ⟨g1, 2, none⟩))] (by kernel_rfl) ?_; clear HF; intro a HF
  refine any_yl HF HS (i := 2) rfl rfl (d := 23) rfl (by decide) (by kernel_rfl) (fun _ _ _ h => h) (v := .slice A n c) (Yl.load1 rfl rfl (by kernel_rfl) (fun _ h => h.cell (i := 0) rfl rfl)) ?_; clear HF; intro a HF
  refine any_yl HF HS (i := 5) rfl rfl (d := 26) rfl (by decide) (by kernel_rfl) (fun _ _ _ h => h) (v := .slice A2 n2 c2) (Yl.load1 rfl rfl (by kernel_rfl) (fun _ h => h.cell (i := 0) rfl rfl)) ?_; clear HF; intro a HF
  refine any_all [0] (by kernel_rfl) rfl ?_
  refine all_cons ?_ all_nil
  refine any_op HF (i := 0) rfl rfl ?_
  refine e_slice0 HF HM rfl ei_ev rfl (by decide) ?_
  clear HF HM; intro a w21 g21 HF HM
  refine keepS (HM.picks [1] (by decide) rfl) (fun HS => ?_)
  refine any_all [3] (by kernel_rfl) rfl ?_
  refine all_cons ?_ all_nil
  refine any_op HF (i := 3) rfl rfl ?_
  refine e_append_wide HF HM (i := 0) rfl ei_ev rfl rfl rfl (news := (es.flatMap evL)) (HM.old hr) (ev_ones _) (by omega) (by omega) rfl (by decide) ?_
  clear HF HM; intro a w24 A24 c24 HF HM hc24
  refine keepS (HM.picks [1] (by decide) rfl) (fun HS => ?_)
  refine any_all [6] (by kernel_rfl) rfl ?_
  refine all_cons ?_ all_nil
  refine any_op HF (i := 6) rfl rfl ?_
  refine e_call HF (vs := [.slice A2 n2 c2]) rfl (by kernel_rfl) (by kernel_rfl) rfl (by decide) (lent_is _ n2 _ l _ (HM.old hr2) (by omega) hln2) ?_
  rintro _ w27 ⟨⟨A27, c27, rfl, ho, hc27⟩, hbw⟩
  refine ⟨_, rfl, ?_⟩
  replace HM := HM.callRow hbw ho
  clear HF; intro a HF
  refine keepS (HM.picks [2] (by decide) rfl) (fun HS => ?_)
  refine any_pures HF (fun _ => HS) (fun _ _ d _ _ h => by cases d <;> exact h) [7, 8] #[true, true, true, true, true, true, true, true, true] [(4, .slice A27 n2 c27), (3, .slice A24 (0 + n) c24)] (by kernel_rfl) ?_; clear HF; intro a HF
  refine any_done (by kernel_rfl) ?_
  replace HF := HF.sub (σ' := [(4, .slice A27 n2 c27), (3, .slice A24 (0 + n) c24), (2, .bool false), (1, .pointer (some ⟨g1, 0, none⟩))]) (by kernel_rfl)
  have hnA24 : 0 + n = n := Nat.zero_add n
  replace HM := HM.reRow (i := 1) (ys := es.flatMap evL) rfl hnA24 (rfl)
  rw [hnA24] at hc24
  replace HF := HF.as (t := 3) (u := .slice A24 n c24) rfl (by rw [hnA24])
  refine wp_seq ?_
  refine from_start ?_
  refine from_pures HF 1 0 (j := 1) [(29, .slice A24 n c24)] (by kernel_rfl) rfl ?_; clear HF; intro a HF
  refine from_op HF (i := 1) rfl rfl ?_
  refine e_call HF (vs := [.slice A24 n c24]) rfl (by kernel_rfl) (by kernel_rfl) rfl (by decide) (row_is _ _ _ es hok B _ (hL.mem HM hB) (HM.le hB) (HM.rd (i := 1) rfl) (by omega) hrow) ?_
  rintro _ w30 ⟨rfl, hbw⟩
  refine ⟨_, rfl, ?_⟩
  replace HM := HM.call hbw
  clear HF; intro a HF
  refine from_pures HF 5 2 (j := 7) [(6, .int .i64 (rer : Int)), (5, .int .i64 ri), (32, .int .i64 (rer : Int)), (31, .int .i64 ri), (28, .tuple #[.int .i64 ri, .int .i64 (rer : Int)])] (by kernel_rfl) rfl ?_; clear HF; intro a HF
  refine from_done rfl ?_
  replace HF := HF.sub (σ' := [(6, .int .i64 (rer : Int)), (5, .int .i64 ri), (3, .slice A24 n c24), (4, .slice A27 n2 c27), (2, .bool false), (1, .pointer (some ⟨g1, 0, none⟩))]) (by kernel_rfl)
  refine wp_seq ?_
  refine from_start ?_
  refine from_pures HF 1 0 (j := 1) [(34, .pointer (some ⟨g1, 2, none⟩))] (by kernel_rfl) rfl ?_; clear HF; intro a HF
  refine from_yl (S := fun wS => Mem w wS _) HF HM (i := 1) rfl rfl (d := 35) rfl (by decide) (v := .slice A n c) (Yl.load1 rfl rfl (by kernel_rfl) (fun _ h => h.cell (i := 2) rfl rfl)) ?_; clear HF; intro a HF
  refine from_op HF (i := 2) rfl rfl ?_
  refine e_call HF (vs := [.slice A n c]) rfl (by kernel_rfl) (by kernel_rfl) rfl (by decide) (turned_is _ n _ es _ (HM.old hr) (by omega) hln) ?_
  rintro _ w36 ⟨⟨A36, c36, rfl, ho, hc36⟩, hbw⟩
  refine ⟨_, rfl, ?_⟩
  replace HM := HM.callRow hbw ho
  clear HF; intro a HF
  refine from_op HF (i := 3) rfl rfl ?_
  refine e_call HF (vs := [.slice A36 n c36]) rfl (by kernel_rfl) (by kernel_rfl) rfl (by decide) (row07_is _ _ _ es hok _ (HM.rd (i := 0) rfl) (by omega) hln hrow) ?_
  rintro _ w37 ⟨rfl, hbw⟩
  refine ⟨_, rfl, ?_⟩
  replace HM := HM.call hbw
  clear HF; intro a HF
  refine from_pures HF 5 4 (j := 9) [(8, .int .i64 (rer : Int)), (7, .int .i64 ri), (39, .int .i64 (rer : Int)), (38, .int .i64 ri), (33, .tuple #[.int .i64 ri, .int .i64 (rer : Int)])] (by kernel_rfl) rfl ?_; clear HF; intro a HF
  refine from_done rfl ?_
  replace HF := HF.sub (σ' := [(8, .int .i64 (rer : Int)), (7, .int .i64 ri), (6, .int .i64 (rer : Int)), (5, .int .i64 ri), (3, .slice A24 n c24), (4, .slice A27 n2 c27), (2, .bool false), (1, .pointer (some ⟨g1, 0, none⟩))]) (by kernel_rfl)
  replace HM := HM.picks (fs' := [.row (.slice A27 (n2 + 12) c27) (n2 + 12) ((l ++ marks 12).map B8) 5 1, .row (.slice A24 n c24) n (es.flatMap evL) 37 11, .blk g1 (rowsCells b A n c cpu m A2 n2 c2) 27]) [1, 2, 3] (by decide) rfl
  refine wp_seq ?_
  refine from_start ?_
  refine from_pures HF 1 0 (j := 1) [(41, .pointer (some ⟨g1, 0, none⟩))] (by kernel_rfl) rfl ?_; clear HF; intro a HF
  refine from_yl (S := fun wS => Mem w wS _) HF HM (i := 1) rfl rfl (d := 42) rfl (by decide) (v := .agg b.cells) (Yl.loadS rfl rfl ⟨(by kernel_rfl), (by kernel_rfl)⟩ rfl (fun _ h => h.sub (i := 2) rfl 0 rfl)) ?_; clear HF; intro a HF
  refine from_pures HF 1 2 (j := 3) [(43, .slice A24 n c24)] (by kernel_rfl) rfl ?_; clear HF; intro a HF
  refine from_op HF (i := 3) rfl rfl ?_
  refine e_call HF (vs := [.agg b.cells, .slice A24 n c24]) rfl (by kernel_rfl) (by kernel_rfl) rfl (by decide) (write_is b _ _ _ es hok B _ (hL.mem HM hB) (HM.le hB) (HM.rd (i := 1) rfl) (by omega) rfl rfl) ?_
  rintro _ w44 ⟨⟨A44, c44, rfl, ho, hc44⟩, hbw⟩
  refine ⟨_, rfl, ?_⟩
  replace HM := HM.callRow hbw ho
  clear HF; intro a HF
  refine from_pures HF 5 4 (j := 9) [(10, .int .i64 (writeErr b es : Int)), (9, .slice A44 ((writeOut b es).length) c44), (46, .int .i64 (writeErr b es : Int)), (45, .slice A44 ((writeOut b es).length) c44), (40, .tuple #[.slice A44 ((writeOut b es).length) c44, .int .i64 (writeErr b es : Int)])] (by kernel_rfl) rfl ?_; clear HF; intro a HF
  refine from_done rfl ?_
  replace HF := HF.sub (σ' := [(10, .int .i64 (writeErr b es : Int)), (9, .slice A44 ((writeOut b es).length) c44), (8, .int .i64 (rer : Int)), (7, .int .i64 ri), (6, .int .i64 (rer : Int)), (5, .int .i64 ri), (3, .slice A24 n c24), (4, .slice A27 n2 c27), (2, .bool false), (1, .pointer (some ⟨g1, 0, none⟩))]) (by kernel_rfl)
  refine wp_seq ?_
  refine any_start (by kernel_rfl) (fun wS => Mem w wS [.row (.slice A44 ((writeOut b es).length) c44) ((writeOut b es).length) ((writeOut b es).map B8) 5 1, .row (.slice A27 (n2 + 12) c27) (n2 + 12) ((l ++ marks 12).map B8) 5 1, .row (.slice A24 n c24) n (es.flatMap evL) 37 11, .blk g1 (rowsCells b A n c cpu m A2 n2 c2) 27]) [] ?_
  replace HM := HM.drew
  have HS := HM.picks (fs' := [.row (.slice A44 ((writeOut b es).length) c44) ((writeOut b es).length) ((writeOut b es).map B8) 5 1, .row (.slice A27 (n2 + 12) c27) (n2 + 12) ((l ++ marks 12).map B8) 5 1, .row (.slice A24 n c24) n (es.flatMap evL) 37 11, .blk g1 (rowsCells b A n c cpu m A2 n2 c2) 27]) [0, 1, 2, 3] (by decide) rfl
  refine any_pures HF (fun _ => HS) (fun _ _ d _ _ h => by cases d <;> exact h) [0, 2] #[true, false, true, false, false, false, false, false, false, false, false] [(50, .pointer (some ⟨g1, 2, none⟩)), (48, .pointer (some ⟨g1, 0, none⟩))] (by kernel_rfl) ?_; clear HF; intro a HF
  refine any_yl HF HS (i := 1) rfl rfl (d := 49) rfl (by decide) (by kernel_rfl) (fun _ _ _ h => h) (v := .agg b.cells) (Yl.loadS rfl rfl ⟨(by kernel_rfl), (by kernel_rfl)⟩ rfl (fun _ h => h.sub (i := 3) rfl 0 rfl)) ?_; clear HF; intro a HF
  refine any_yl HF HS (i := 3) rfl rfl (d := 51) rfl (by decide) (by kernel_rfl) (fun _ _ _ h => h) (v := .slice A n c) (Yl.load1 rfl rfl (by kernel_rfl) (fun _ h => h.cell (i := 3) rfl rfl)) ?_; clear HF; intro a HF
  refine any_all [4] (by kernel_rfl) rfl ?_
  refine all_cons ?_ all_nil
  refine any_op HF (i := 4) rfl rfl ?_
  refine e_call HF (vs := [.slice A n c]) rfl (by kernel_rfl) (by kernel_rfl) rfl (by decide) (turned_is _ n _ es _ (HM.old hr) (by omega) hln) ?_
  rintro _ w52 ⟨⟨A52, c52, rfl, ho, hc52⟩, hbw⟩
  refine ⟨_, rfl, ?_⟩
  replace HM := HM.callRow hbw ho
  clear HF; intro a HF
  refine keepS (HM.picks [1, 2, 3, 4] (by decide) rfl) (fun HS => ?_)
  refine any_all [5] (by kernel_rfl) rfl ?_
  refine all_cons ?_ all_nil
  refine any_op HF (i := 5) rfl rfl ?_
  refine e_call HF (vs := [.agg b.cells, .slice A52 n c52]) rfl (by kernel_rfl) (by kernel_rfl) rfl (by decide) (write07_any b _ _ _ es hok _ (HM.rd (i := 0) rfl) (by omega) (by omega) hln) ?_
  rintro _ w53 ⟨⟨A53, c53, rfl, ho, hc53⟩, hbw⟩
  refine ⟨_, rfl, ?_⟩
  replace HM := HM.callRow hbw ho
  clear HF; intro a HF
  refine keepS (HM.picks [2, 3, 4, 5] (by decide) rfl) (fun HS => ?_)
  refine any_pures HF (fun _ => HS) (fun _ _ d _ _ h => by cases d <;> exact h) [6, 7, 8, 9, 10] #[true, true, true, true, true, true, true, true, true, true, true] [(12, .int .i64 (writeErr b es : Int)), (11, .slice A53 ((writeOut b es).length) c53), (55, .int .i64 (writeErr b es : Int)), (54, .slice A53 ((writeOut b es).length) c53), (47, .tuple #[.slice A53 ((writeOut b es).length) c53, .int .i64 (writeErr b es : Int)])] (by kernel_rfl) ?_; clear HF; intro a HF
  refine any_done (by kernel_rfl) ?_
  replace HF := HF.sub (σ' := [(12, .int .i64 (writeErr b es : Int)), (11, .slice A53 ((writeOut b es).length) c53), (10, .int .i64 (writeErr b es : Int)), (9, .slice A44 ((writeOut b es).length) c44), (8, .int .i64 (rer : Int)), (7, .int .i64 ri), (6, .int .i64 (rer : Int)), (5, .int .i64 ri), (3, .slice A24 n c24), (4, .slice A27 n2 c27), (2, .bool false), (1, .pointer (some ⟨g1, 0, none⟩))]) (by kernel_rfl)
  replace HM := HM.picks (fs' := [.row (.slice A53 ((writeOut b es).length) c53) ((writeOut b es).length) ((writeOut b es).map B8) 5 1, .row (.slice A44 ((writeOut b es).length) c44) ((writeOut b es).length) ((writeOut b es).map B8) 5 1, .row (.slice A27 (n2 + 12) c27) (n2 + 12) ((l ++ marks 12).map B8) 5 1, .row (.slice A24 n c24) n (es.flatMap evL) 37 11, .blk g1 (rowsCells b A n c cpu m A2 n2 c2) 27]) [0, 2, 3, 4, 5] (by decide) rfl
  refine wp_seq ?_
  refine from_start ?_
  refine from_pures HF 1 0 (j := 1) [(57, .pointer (some ⟨g1, 0, none⟩))] (by kernel_rfl) rfl ?_; clear HF; intro a HF
  refine from_yl (S := fun wS => Mem w wS _) HF HM (i := 1) rfl rfl (d := 58) rfl (by decide) (v := .agg b.cells) (Yl.loadS rfl rfl ⟨(by kernel_rfl), (by kernel_rfl)⟩ rfl (fun _ h => h.sub (i := 4) rfl 0 rfl)) ?_; clear HF; intro a HF
  refine from_pures HF 1 2 (j := 3) [(59, .pointer (some ⟨g1, 3, none⟩))] (by kernel_rfl) rfl ?_; clear HF; intro a HF
  refine from_yl (S := fun wS => Mem w wS _) HF HM (i := 3) rfl rfl (d := 60) rfl (by decide) (v := .int .u8 (cpu : Int)) (Yl.load1 rfl rfl (by kernel_rfl) (fun _ h => h.cell (i := 4) rfl rfl)) ?_; clear HF; intro a HF
  refine from_pures HF 1 4 (j := 5) [(61, .pointer (some ⟨g1, 4, none⟩))] (by kernel_rfl) rfl ?_; clear HF; intro a HF
  refine from_yl (S := fun wS => Mem w wS _) HF HM (i := 5) rfl rfl (d := 62) rfl (by decide) (v := .int .i64 m) (Yl.load1 rfl rfl (by kernel_rfl) (fun _ h => h.cell (i := 4) rfl rfl)) ?_; clear HF; intro a HF
  refine from_pures HF 1 6 (j := 7) [(63, .slice A27 n2 c27)] (by kernel_rfl) rfl ?_; clear HF; intro a HF
  refine from_op HF (i := 7) rfl rfl ?_
  refine e_call HF (vs := [.agg b.cells, .int .u8 (cpu : Int), .int .i64 m, .slice A27 n2 c27]) rfl (by kernel_rfl) (by kernel_rfl) rfl (by decide) (read_is b cpu hcpu _ n2 _ m hm l B _ (hL.mem HM hB) (HM.le hB) ((HM.rd (i := 2) rfl).pre hln2 (by omega)) (by omega) hl (by omega) (.inr (by omega)) hq) ?_
  rintro _ w64 ⟨⟨A64, c64, rfl, ho, hc64⟩, hbw⟩
  refine ⟨_, rfl, ?_⟩
  replace HM := HM.callRow hbw ho
  clear HF; intro a HF
  refine from_pures HF 7 8 (j := 15) [(15, .int .i64 (er : Int)), (14, .int .i64 (L : Int)), (13, .slice A64 rs.length c64), (67, .int .i64 (er : Int)), (66, .int .i64 (L : Int)), (65, .slice A64 rs.length c64), (56, .tuple #[.slice A64 rs.length c64, .int .i64 (L : Int), .int .i64 (er : Int)])] (by kernel_rfl) rfl ?_; clear HF; intro a HF
  refine from_done rfl ?_
  replace HF := HF.sub (σ' := [(15, .int .i64 (er : Int)), (14, .int .i64 (L : Int)), (13, .slice A64 rs.length c64), (12, .int .i64 (writeErr b es : Int)), (11, .slice A53 ((writeOut b es).length) c53), (10, .int .i64 (writeErr b es : Int)), (9, .slice A44 ((writeOut b es).length) c44), (8, .int .i64 (rer : Int)), (7, .int .i64 ri), (6, .int .i64 (rer : Int)), (5, .int .i64 ri), (3, .slice A24 n c24), (4, .slice A27 n2 c27), (2, .bool false), (1, .pointer (some ⟨g1, 0, none⟩))]) (by kernel_rfl)
  refine wp_seq ?_
  refine from_start ?_
  refine from_pures HF 1 0 (j := 1) [(69, .pointer (some ⟨g1, 0, none⟩))] (by kernel_rfl) rfl ?_; clear HF; intro a HF
  refine from_yl (S := fun wS => Mem w wS _) HF HM (i := 1) rfl rfl (d := 70) rfl (by decide) (v := .agg b.cells) (Yl.loadS rfl rfl ⟨(by kernel_rfl), (by kernel_rfl)⟩ rfl (fun _ h => h.sub (i := 5) rfl 0 rfl)) ?_; clear HF; intro a HF
  refine from_pures HF 1 2 (j := 3) [(71, .pointer (some ⟨g1, 3, none⟩))] (by kernel_rfl) rfl ?_; clear HF; intro a HF
  refine from_yl (S := fun wS => Mem w wS _) HF HM (i := 3) rfl rfl (d := 72) rfl (by decide) (v := .int .u8 (cpu : Int)) (Yl.load1 rfl rfl (by kernel_rfl) (fun _ h => h.cell (i := 5) rfl rfl)) ?_; clear HF; intro a HF
  refine from_pures HF 1 4 (j := 5) [(73, .pointer (some ⟨g1, 4, none⟩))] (by kernel_rfl) rfl ?_; clear HF; intro a HF
  refine from_yl (S := fun wS => Mem w wS _) HF HM (i := 5) rfl rfl (d := 74) rfl (by decide) (v := .int .i64 m) (Yl.load1 rfl rfl (by kernel_rfl) (fun _ h => h.cell (i := 5) rfl rfl)) ?_; clear HF; intro a HF
  refine from_pures HF 1 6 (j := 7) [(75, .pointer (some ⟨g1, 5, none⟩))] (by kernel_rfl) rfl ?_; clear HF; intro a HF
  refine from_yl (S := fun wS => Mem w wS _) HF HM (i := 7) rfl rfl (d := 76) rfl (by decide) (v := .slice A2 n2 c2) (Yl.load1 rfl rfl (by kernel_rfl) (fun _ h => h.cell (i := 5) rfl rfl)) ?_; clear HF; intro a HF
  refine from_op HF (i := 8) rfl rfl ?_
  refine e_call HF (vs := [.agg b.cells, .int .u8 (cpu : Int), .int .i64 m, .slice A2 n2 c2]) rfl (by kernel_rfl) (by kernel_rfl) rfl (by decide) (read07_is b cpu hcpu m hm _ n2 _ l _ (HM.old hr2) hc2 hl (by omega) hln2 hq) ?_
  rintro _ w77 ⟨⟨A77, c77, rfl, ho, hc77⟩, hbw⟩
  refine ⟨_, rfl, ?_⟩
  replace HM := HM.callRow hbw ho
  clear HF; intro a HF
  refine from_pures HF 7 9 (j := 16) [(18, .int .i64 (er : Int)), (17, .int .i64 (L : Int)), (16, .slice A77 rs.length c77), (80, .int .i64 (er : Int)), (79, .int .i64 (L : Int)), (78, .slice A77 rs.length c77), (68, .tuple #[.slice A77 rs.length c77, .int .i64 (L : Int), .int .i64 (er : Int)])] (by kernel_rfl) rfl ?_; clear HF; intro a HF
  refine from_done rfl ?_
  replace HF := HF.sub (σ' := [(18, .int .i64 (er : Int)), (17, .int .i64 (L : Int)), (16, .slice A77 rs.length c77), (15, .int .i64 (er : Int)), (14, .int .i64 (L : Int)), (13, .slice A64 rs.length c64), (12, .int .i64 (writeErr b es : Int)), (11, .slice A53 ((writeOut b es).length) c53), (10, .int .i64 (writeErr b es : Int)), (9, .slice A44 ((writeOut b es).length) c44), (8, .int .i64 (rer : Int)), (7, .int .i64 ri), (6, .int .i64 (rer : Int)), (5, .int .i64 ri), (3, .slice A24 n c24), (4, .slice A27 n2 c27), (2, .bool false), (1, .pointer (some ⟨g1, 0, none⟩))]) (by kernel_rfl)
  refine wp_seq ?_
  refine wp_seq ?_
  refine from_start ?_
  refine from_pures HF 3 0 (j := 3) [(83, .bool ((ri : Int) != (ri : Int))), (82, .int .i64 ri), (81, .int .i64 ri)] (by kernel_rfl) rfl ?_; clear HF; intro a HF
  replace HF := HF.as (t := 83) (u := .bool false) rfl (by simp)
  refine from_pures HF 4 3 (j := 7) [(87, .bool (((rer : Int) : Int) != ((rer : Int) : Int))), (86, .int .i64 (rer : Int)), (85, .int .i64 (rer : Int)), (84, .bool false)] (by kernel_rfl) rfl ?_; clear HF; intro a HF
  replace HF := HF.as (t := 87) (u := .bool false) rfl (by simp)
  refine from_pures HF 5 7 (j := 12) [(92, .bool (((writeErr b es : Int) : Int) != ((writeErr b es : Int) : Int))), (91, .int .i64 (writeErr b es : Int)), (90, .int .i64 (writeErr b es : Int)), (89, .bool false), (88, .bool false)] (by kernel_rfl) rfl ?_; clear HF; intro a HF
  replace HF := HF.as (t := 92) (u := .bool false) rfl (by simp)
  refine from_pures HF 5 12 (j := 17) [(97, .bool (((er : Int) : Int) != ((er : Int) : Int))), (96, .int .i64 (er : Int)), (95, .int .i64 (er : Int)), (94, .bool false), (93, .bool false)] (by kernel_rfl) rfl ?_; clear HF; intro a HF
  replace HF := HF.as (t := 97) (u := .bool false) rfl (by simp)
  refine from_pures HF 3 17 (j := 20) [(100, .slice A44 ((writeOut b es).length) c44), (99, .bool false), (98, .bool false)] (by kernel_rfl) rfl ?_; clear HF; intro a HF
  refine from_yl (S := fun wS => Mem w wS _) HF HM (i := 20) rfl rfl (d := 101) rfl (by decide) (v := .string (bstr (writeOut b es))) (Yl.str rfl rfl (fun _ h => h.rd (i := 3) rfl)) ?_; clear HF; intro a HF
  refine from_pures HF 1 21 (j := 22) [(102, .slice A53 ((writeOut b es).length) c53)] (by kernel_rfl) rfl ?_; clear HF; intro a HF
  refine from_yl (S := fun wS => Mem w wS _) HF HM (i := 22) rfl rfl (d := 103) rfl (by decide) (v := .string (bstr (writeOut b es))) (Yl.str rfl rfl (fun _ h => h.rd (i := 2) rfl)) ?_; clear HF; intro a HF
  refine from_pures HF 1 23 (j := 24) [(104, .bool (!(((bstr (writeOut b es))).toList == ((bstr (writeOut b es))).toList)))] (by kernel_rfl) rfl ?_; clear HF; intro a HF
  replace HF := HF.as (t := 104) (u := .bool false) rfl (by simp)
  refine from_pures HF 5 24 (j := 29) [(109, .bool (((L : Int) : Int) != ((L : Int) : Int))), (108, .int .i64 (L : Int)), (107, .int .i64 (L : Int)), (106, .bool false), (105, .bool false)] (by kernel_rfl) rfl ?_; clear HF; intro a HF
  replace HF := HF.as (t := 109) (u := .bool false) rfl (by simp)
  refine from_pures HF 4 29 (j := 33) [(113, .slice A77 rs.length c77), (112, .slice A64 rs.length c64), (111, .bool false), (110, .bool false)] (by kernel_rfl) rfl ?_; clear HF; intro a HF
  refine from_op HF (i := 33) rfl rfl ?_
  refine e_call HF (vs := [.slice A64 rs.length c64, .slice A77 rs.length c77]) rfl (by kernel_rfl) (by kernel_rfl) rfl (by decide) (same_any _ _ rs.length _ _ rs _ (HM.rd (i := 1) rfl) (HM.rd (i := 0) rfl) (by omega) rfl) ?_
  rintro _ w114 ⟨rfl, hbw⟩
  refine ⟨_, rfl, ?_⟩
  replace HM := HM.call hbw
  clear HF; intro a HF
  refine from_pures HF 2 34 (j := 36) [(116, .bool false), (115, .bool false)] (by kernel_rfl) rfl ?_; clear HF; intro a HF
  refine from_done rfl ?_
  replace HF := HF.sub (σ' := [(116, .bool false), (13, .slice A64 rs.length c64), (9, .slice A44 ((writeOut b es).length) c44), (3, .slice A24 n c24), (4, .slice A27 n2 c27), (2, .bool false), (1, .pointer (some ⟨g1, 0, none⟩))]) (by kernel_rfl)
  replace HM := HM.picks (fs' := [.row (.slice A64 rs.length c64) rs.length (rs.flatMap evL) 37 11, .row (.slice A44 ((writeOut b es).length) c44) ((writeOut b es).length) ((writeOut b es).map B8) 5 1, .row (.slice A27 (n2 + 12) c27) (n2 + 12) ((l ++ marks 12).map B8) 5 1, .row (.slice A24 n c24) n (es.flatMap evL) 37 11, .blk g1 (rowsCells b A n c cpu m A2 n2 c2) 27]) [1, 3, 4, 5, 6] (by decide) rfl
  refine cond_false HF rfl ?_
  refine wp_skip ?_
  refine wp_seq ?_
  refine wp_seq ?_
  refine from_start ?_
  refine from_pures HF 1 0 (j := 1) [(117, .slice A44 ((writeOut b es).length) c44)] (by kernel_rfl) rfl ?_; clear HF; intro a HF
  refine from_yl (S := fun wS => Mem w wS _) HF HM (i := 1) rfl rfl (d := 118) rfl (by decide) (v := .int .i64 (((writeOut b es).length : Nat) : Int)) (Yl.len rfl rfl (by kernel_rfl)) ?_; clear HF; intro a HF
  refine from_pures HF 1 2 (j := 3) [(119, .int .i64 0)] (by kernel_rfl) rfl ?_; clear HF; intro a HF
  refine from_done rfl ?_
  replace HF := HF.sub (σ' := [(119, .int .i64 0), (118, .int .i64 (((writeOut b es).length : Nat) : Int)), (116, .bool false), (13, .slice A64 rs.length c64), (9, .slice A44 ((writeOut b es).length) c44), (3, .slice A24 n c24), (4, .slice A27 n2 c27), (2, .bool false), (1, .pointer (some ⟨g1, 0, none⟩))]) (by kernel_rfl)
  refine wp_block ?_
  refine loop_nat (fun mS aS wS => ∃ (k : Nat) (zs : List Nat), (k ≤ (writeOut b es).length) ∧ (zs.length = (writeOut b es).length) ∧ mS = (writeOut b es).length - k ∧ Fr aS 150 [] [(119, .int .i64 (k : Int)), (118, .int .i64 (((writeOut b es).length : Nat) : Int)), (116, .bool false), (13, .slice A64 rs.length c64), (9, .slice A44 ((writeOut b es).length) c44), (3, .slice A24 n c24), (4, .slice A27 n2 c27), (2, .bool false), (1, .pointer (some ⟨g1, 0, none⟩))] ∧ Mem w wS [.row (.slice A64 rs.length c64) rs.length (rs.flatMap evL) 37 11, .row (.slice A44 ((writeOut b es).length) c44) ((writeOut b es).length) (zs.map B8) 5 1, .row (.slice A27 (n2 + 12) c27) (n2 + 12) ((l ++ marks 12).map B8) 5 1, .row (.slice A24 n c24) n (es.flatMap evL) 37 11, .blk g1 (rowsCells b A n c cpu m A2 n2 c2) 27]) (m := (writeOut b es).length - 0) ⟨0, (writeOut b es), Nat.zero_le _, rfl, rfl, HF.sub (by kernel_rfl), HM.picks [0, 1, 2, 3, 4] (by decide) rfl⟩ ?_
  clear HF HM; rintro mS a w_ ⟨k, zs, hk, hzs, rfl, HF, HM⟩
  refine wp_seq ?_
  refine from_start ?_
  refine from_pures HF 1 0 (j := 1) [(120, .bool (decide (((k : Int) : Int) < ((((writeOut b es).length : Nat) : Int) : Int))))] (by kernel_rfl) rfl ?_; clear HF; intro a HF
  refine from_done rfl ?_
  refine wp_seq ?_
  rcases Bool.eq_false_or_eq_true (decide (((k : Int) : Int) < ((((writeOut b es).length : Nat) : Int) : Int))) with hb120 | hb120
  · have HF := HF.as (t := 120) (u := .bool true) rfl (by rw [hb120])
    have hk120 : k < (writeOut b es).length := by have := of_decide_eq_true hb120; omega
    obtain ⟨z, hz⟩ : ∃ z, zs[k]? = some z := ⟨_, List.getElem?_eq_getElem (by omega)⟩
    refine cond_true HF rfl ?_
    refine wp_skip ?_
    refine wp_seq ?_
    refine wp_block ?_
    refine wp_seq ?_
    refine from_start ?_
    refine from_pures HF 2 0 (j := 2) [(19, .int .i64 (k : Int)), (121, .int .i64 (k : Int))] (by kernel_rfl) rfl ?_; clear HF; intro a HF
    refine from_done rfl ?_
    replace HF := HF.sub (σ' := [(19, .int .i64 (k : Int)), (120, .bool true), (119, .int .i64 (k : Int)), (118, .int .i64 (((writeOut b es).length : Nat) : Int)), (116, .bool false), (13, .slice A64 rs.length c64), (9, .slice A44 ((writeOut b es).length) c44), (3, .slice A24 n c24), (4, .slice A27 n2 c27), (2, .bool false), (1, .pointer (some ⟨g1, 0, none⟩))]) (by kernel_rfl)
    refine from_start ?_
    refine from_pures HF 2 0 (j := 2) [(123, .int .i64 (k : Int)), (122, .slice A44 ((writeOut b es).length) c44)] (by kernel_rfl) rfl ?_; clear HF; intro a HF
    obtain ⟨gA44, rfl⟩ := own_some (HM.own (i := 1) rfl) (Nat.lt_of_le_of_lt (Nat.zero_le _) (show k < (writeOut b es).length from hk120))
    refine from_yl (S := fun wS => Mem w wS _) HF HM (i := 2) rfl rfl (d := 124) rfl (by decide) (v := .pointer (some ⟨gA44, k * 1, none⟩)) ((Yl.indexAddr (ad := ⟨gA44, 0, none⟩) (y := k) (sz := 1) rfl rfl rfl (hk120) (by kernel_rfl)).as (by rw [Addr.add_mid, Nat.zero_add])) ?_; clear HF; intro a HF
    refine from_yl (S := fun wS => Mem w wS _) HF HM (i := 3) rfl rfl (d := 125) rfl (by decide) (v := .int .u8 (z : Int)) (Yl.load1 rfl rfl (by kernel_rfl) (fun _ h => h.rowOne (i := 1) rfl (k := k) (map_at (F := B8) (k := k) (x := z) (hz)))) ?_; clear HF; intro a HF
    refine from_pures HF 1 4 (j := 5) [(126, .int .u8 (IntKind.u8.wrap ((z : Int) + 1)))] (by kernel_rfl) rfl ?_; clear HF; intro a HF
    replace HF := HF.as (t := 126) (u := .int .u8 (((z + 1) % 256 : Nat) : Int)) rfl (by rw [IntKind.wrap_u8]; congr 1)
    refine from_yl (S := fun wS => Mem w wS _) HF HM (i := 5) rfl rfl (d := 127) rfl (by decide) (v := .pointer (some ⟨gA44, k * 1, none⟩)) ((Yl.indexAddr (ad := ⟨gA44, 0, none⟩) (y := k) (sz := 1) rfl rfl rfl (hk120) (by kernel_rfl)).as (by rw [Addr.add_mid, Nat.zero_add])) ?_; clear HF; intro a HF
    refine from_op HF (i := 6) rfl rfl ?_
    refine e_storeRow HF HM (i := 1) rfl rfl rfl rfl (by kernel_rfl) rfl rfl (by simp only [List.length_map]; omega) ?_
    clear HM; intro w13_6 HM
    replace HM := HM.asRow (i := 1) (ys := (zs.set k ((z + 1) % 256)).map B8) rfl (putAt_one B8 zs k _ (by omega))
    refine from_done rfl ?_
    replace HF := HF.sub (σ' := [(19, .int .i64 (k : Int)), (120, .bool true), (119, .int .i64 (k : Int)), (118, .int .i64 (((writeOut b es).length : Nat) : Int)), (116, .bool false), (13, .slice A64 rs.length c64), (9, .slice (some ⟨gA44, 0, none⟩) ((writeOut b es).length) c44), (3, .slice A24 n c24), (4, .slice A27 n2 c27), (2, .bool false), (1, .pointer (some ⟨g1, 0, none⟩))]) (by kernel_rfl)
    refine from_start ?_
    refine from_pures HF 1 0 (j := 1) [(128, .int .i64 (IntKind.i64.wrap ((k : Int) + 1)))] (by kernel_rfl) rfl ?_; clear HF; intro a HF
    replace HF := HF.as (t := 128) (u := .int .i64 ((k + 1 : Nat) : Int)) rfl (by rw [IntWalk.i64_in _ (by omega)]; simp)
    refine from_pures HF 1 1 (j := 2) [(119, .int .i64 ((k + 1 : Nat) : Int))] (by kernel_rfl) rfl ?_; clear HF; intro a HF
    refine from_done rfl ?_
    replace HF := HF.sub (σ' := [(119, .int .i64 ((k + 1 : Nat) : Int)), (19, .int .i64 (k : Int)), (120, .bool true), (118, .int .i64 (((writeOut b es).length : Nat) : Int)), (116, .bool false), (13, .slice A64 rs.length c64), (9, .slice (some ⟨gA44, 0, none⟩) ((writeOut b es).length) c44), (3, .slice A24 n c24), (4, .slice A27 n2 c27), (2, .bool false), (1, .pointer (some ⟨g1, 0, none⟩))]) (by kernel_rfl)
    exact ⟨_, (by omega), k + 1, zs.set k ((z + 1) % 256), hk120, (by rw [List.length_set]; exact hzs), rfl, HF.sub (by kernel_rfl), HM.picks [0, 1, 2, 3, 4] (by decide) rfl⟩
  · have HF := HF.as (t := 120) (u := .bool false) rfl (by rw [hb120])
    refine cond_false HF rfl ?_
    refine wp_exit ?_
    refine wp_seq ?_
    refine wp_seq ?_
    refine from_start ?_
    refine from_pures HF 1 0 (j := 1) [(129, .slice A64 rs.length c64)] (by kernel_rfl) rfl ?_; clear HF; intro a HF
    refine from_yl (S := fun wS => Mem w wS _) HF HM (i := 1) rfl rfl (d := 130) rfl (by decide) (v := .int .i64 ((rs.length : Nat) : Int)) (Yl.len rfl rfl (by kernel_rfl)) ?_; clear HF; intro a HF
    refine from_pures HF 1 2 (j := 3) [(131, .int .i64 0)] (by kernel_rfl) rfl ?_; clear HF; intro a HF
    refine from_done rfl ?_
    replace HF := HF.sub (σ' := [(131, .int .i64 0), (130, .int .i64 ((rs.length : Nat) : Int)), (120, .bool false), (119, .int .i64 (k : Int)), (118, .int .i64 (((writeOut b es).length : Nat) : Int)), (116, .bool false), (13, .slice A64 rs.length c64), (9, .slice A44 ((writeOut b es).length) c44), (3, .slice A24 n c24), (4, .slice A27 n2 c27), (2, .bool false), (1, .pointer (some ⟨g1, 0, none⟩))]) (by kernel_rfl)
    refine wp_block ?_
    refine loop_nat (fun mS aS wS => ∃ (j : Nat) (qs : List Ev), (j ≤ rs.length) ∧ (qs.length = rs.length) ∧ mS = rs.length - j ∧ Fr aS 150 [] [(131, .int .i64 (j : Int)), (130, .int .i64 ((rs.length : Nat) : Int)), (120, .bool false), (119, .int .i64 (k : Int)), (118, .int .i64 (((writeOut b es).length : Nat) : Int)), (116, .bool false), (13, .slice A64 rs.length c64), (9, .slice A44 ((writeOut b es).length) c44), (3, .slice A24 n c24), (4, .slice A27 n2 c27), (2, .bool false), (1, .pointer (some ⟨g1, 0, none⟩))] ∧ Mem w wS [.row (.slice A64 rs.length c64) rs.length (qs.flatMap evL) 37 11, .row (.slice A44 ((writeOut b es).length) c44) ((writeOut b es).length) (zs.map B8) 5 1, .row (.slice A27 (n2 + 12) c27) (n2 + 12) ((l ++ marks 12).map B8) 5 1, .row (.slice A24 n c24) n (es.flatMap evL) 37 11, .blk g1 (rowsCells b A n c cpu m A2 n2 c2) 27]) (m := rs.length - 0) ⟨0, rs, Nat.zero_le _, rfl, rfl, HF.sub (by kernel_rfl), HM.picks [0, 1, 2, 3, 4] (by decide) rfl⟩ ?_
    clear HF HM; rintro mS a w_ ⟨j, qs, hj, hqs, rfl, HF, HM⟩
    refine wp_seq ?_
    refine from_start ?_
    refine from_pures HF 1 0 (j := 1) [(132, .bool (decide (((j : Int) : Int) < (((rs.length : Nat) : Int) : Int))))] (by kernel_rfl) rfl ?_; clear HF; intro a HF
    refine from_done rfl ?_
    refine wp_seq ?_
    rcases Bool.eq_false_or_eq_true (decide (((j : Int) : Int) < (((rs.length : Nat) : Int) : Int))) with hb132 | hb132
    · have HF := HF.as (t := 132) (u := .bool true) rfl (by rw [hb132])
      have hj132 : j < rs.length := by have := of_decide_eq_true hb132; omega
      obtain ⟨q, hq1⟩ : ∃ q, qs[j]? = some q := ⟨_, List.getElem?_eq_getElem (by omega)⟩
      refine cond_true HF rfl ?_
      refine wp_skip ?_
      refine wp_seq ?_
      refine wp_block ?_
      refine wp_seq ?_
      refine from_start ?_
      refine from_pures HF 2 0 (j := 2) [(20, .int .i64 (j : Int)), (133, .int .i64 (j : Int))] (by kernel_rfl) rfl ?_; clear HF; intro a HF
      refine from_done rfl ?_
      replace HF := HF.sub (σ' := [(20, .int .i64 (j : Int)), (132, .bool true), (131, .int .i64 (j : Int)), (130, .int .i64 ((rs.length : Nat) : Int)), (120, .bool false), (119, .int .i64 (k : Int)), (118, .int .i64 (((writeOut b es).length : Nat) : Int)), (116, .bool false), (13, .slice A64 rs.length c64), (9, .slice A44 ((writeOut b es).length) c44), (3, .slice A24 n c24), (4, .slice A27 n2 c27), (2, .bool false), (1, .pointer (some ⟨g1, 0, none⟩))]) (by kernel_rfl)
      refine from_start ?_
      refine from_pures HF 2 0 (j := 2) [(135, .int .i64 (j : Int)), (134, .slice A64 rs.length c64)] (by kernel_rfl) rfl ?_; clear HF; intro a HF
      obtain ⟨gA64, rfl⟩ := own_some (HM.own (i := 0) rfl) (Nat.lt_of_le_of_lt (Nat.zero_le _) (show j < rs.length from hj132))
      refine from_yl (S := fun wS => Mem w wS _) HF HM (i := 2) rfl rfl (d := 136) rfl (by decide) (v := .pointer (some ⟨gA64, j * 11, none⟩)) ((Yl.indexAddr (ad := ⟨gA64, 0, none⟩) (y := j) (sz := 11) rfl rfl rfl (hj132) (by kernel_rfl)).as (by rw [Addr.add_mid, Nat.zero_add])) ?_; clear HF; intro a HF
      refine from_pures HF 1 3 (j := 4) [(137, .pointer (some ⟨gA64, j * 11, none⟩))] (by kernel_rfl) rfl ?_; clear HF; intro a HF
      refine from_op HF (i := 4) rfl rfl ?_
      refine e_storeRow HF HM (i := 0) rfl rfl rfl rfl (by kernel_rfl) rfl rfl (by simp only [flat_len evL 11 evL_len]; omega) ?_
      clear HM; intro w18_4 HM
      replace HM := HM.asRow (i := 0) (ys := (qs.set j { q with seq := -1 }).flatMap evL) rfl (putAt_cell0 evL 11 evL_len qs j q { q with seq := -1 } hq1 (by decide) _ rfl)
      refine from_done rfl ?_
      replace HF := HF.sub (σ' := [(20, .int .i64 (j : Int)), (132, .bool true), (131, .int .i64 (j : Int)), (130, .int .i64 ((rs.length : Nat) : Int)), (120, .bool false), (119, .int .i64 (k : Int)), (118, .int .i64 (((writeOut b es).length : Nat) : Int)), (116, .bool false), (13, .slice (some ⟨gA64, 0, none⟩) rs.length c64), (9, .slice A44 ((writeOut b es).length) c44), (3, .slice A24 n c24), (4, .slice A27 n2 c27), (2, .bool false), (1, .pointer (some ⟨g1, 0, none⟩))]) (by kernel_rfl)
      refine from_start ?_
      refine from_pures HF 1 0 (j := 1) [(138, .int .i64 (IntKind.i64.wrap ((j : Int) + 1)))] (by kernel_rfl) rfl ?_; clear HF; intro a HF
      replace HF := HF.as (t := 138) (u := .int .i64 ((j + 1 : Nat) : Int)) rfl (by rw [IntWalk.i64_in _ (by omega)]; simp)
      refine from_pures HF 1 1 (j := 2) [(131, .int .i64 ((j + 1 : Nat) : Int))] (by kernel_rfl) rfl ?_; clear HF; intro a HF
      refine from_done rfl ?_
      replace HF := HF.sub (σ' := [(131, .int .i64 ((j + 1 : Nat) : Int)), (20, .int .i64 (j : Int)), (132, .bool true), (130, .int .i64 ((rs.length : Nat) : Int)), (120, .bool false), (119, .int .i64 (k : Int)), (118, .int .i64 (((writeOut b es).length : Nat) : Int)), (116, .bool false), (13, .slice (some ⟨gA64, 0, none⟩) rs.length c64), (9, .slice A44 ((writeOut b es).length) c44), (3, .slice A24 n c24), (4, .slice A27 n2 c27), (2, .bool false), (1, .pointer (some ⟨g1, 0, none⟩))]) (by kernel_rfl)
      exact ⟨_, (by omega), j + 1, qs.set j { q with seq := -1 }, hj132, (by rw [List.length_set]; exact hqs), rfl, HF.sub (by kernel_rfl), HM.picks [0, 1, 2, 3, 4] (by decide) rfl⟩
    · have HF := HF.as (t := 132) (u := .bool false) rfl (by rw [hb132])
      refine cond_false HF rfl ?_
      refine wp_exit ?_
      refine wp_seq ?_
      refine from_start ?_
      refine from_pures HF 2 0 (j := 2) [(140, .pointer (some ⟨g1, 2, none⟩)), (139, .slice A24 n c24)] (by kernel_rfl) rfl ?_; clear HF; intro a HF
      refine from_yl (S := fun wS => Mem w wS _) HF HM (i := 2) rfl rfl (d := 141) rfl (by decide) (v := .slice A n c) (Yl.load1 rfl rfl (by kernel_rfl) (fun _ h => h.cell (i := 4) rfl rfl)) ?_; clear HF; intro a HF
      refine from_op HF (i := 3) rfl rfl ?_
      refine e_call HF (vs := [.slice A n c]) rfl (by kernel_rfl) (by kernel_rfl) rfl (by decide) (turned_is _ n _ es _ (HM.old hr) (by omega) hln) ?_
      rintro _ w142 ⟨⟨A142, c142, rfl, ho, hc142⟩, hbw⟩
      refine ⟨_, rfl, ?_⟩
      replace HM := HM.callRow hbw ho
      clear HF; intro a HF
      refine from_op HF (i := 4) rfl rfl ?_
      refine e_call HF (vs := [.slice A24 n c24, .slice A142 n c142]) rfl (by kernel_rfl) (by kernel_rfl) rfl (by decide) (same_any _ _ n _ _ es _ (HM.rd (i := 4) rfl) (HM.rd (i := 0) rfl) (by omega) hln) ?_
      rintro _ w143 ⟨rfl, hbw⟩
      refine ⟨_, rfl, ?_⟩
      replace HM := HM.call hbw
      clear HF; intro a HF
      refine from_pures HF 3 5 (j := 8) [(146, .pointer (some ⟨g1, 5, none⟩)), (145, .slice A27 n2 c27), (144, .bool true)] (by kernel_rfl) rfl ?_; clear HF; intro a HF
      refine from_yl (S := fun wS => Mem w wS _) HF HM (i := 8) rfl rfl (d := 147) rfl (by decide) (v := .slice A2 n2 c2) (Yl.load1 rfl rfl (by kernel_rfl) (fun _ h => h.cell (i := 5) rfl rfl)) ?_; clear HF; intro a HF
      refine from_op HF (i := 9) rfl rfl ?_
      refine e_call HF (vs := [.slice A27 n2 c27, .slice A2 n2 c2]) rfl (by kernel_rfl) (by kernel_rfl) rfl (by decide) (kept_any _ _ n2 _ _ l _ (HM.rd (i := 3) rfl) hc27 (HM.old hr2) (by omega) hln2) ?_
      rintro _ w148 ⟨rfl, hbw⟩
      refine ⟨_, rfl, ?_⟩
      replace HM := HM.call hbw
      clear HF; intro a HF
      refine from_pures HF 2 10 (j := 12) [(2, .bool true), (149, .bool true)] (by kernel_rfl) rfl ?_; clear HF; intro a HF
      refine from_done rfl ?_
      replace HF := HF.sub (σ' := [(2, .bool true), (132, .bool false), (131, .int .i64 (j : Int)), (130, .int .i64 ((rs.length : Nat) : Int)), (120, .bool false), (119, .int .i64 (k : Int)), (118, .int .i64 (((writeOut b es).length : Nat) : Int)), (116, .bool false), (13, .slice A64 rs.length c64), (9, .slice A44 ((writeOut b es).length) c44), (3, .slice A24 n c24), (4, .slice A27 n2 c27), (1, .pointer (some ⟨g1, 0, none⟩))]) (by kernel_rfl)
      replace HM := HM.picks (fs' := [.row (.slice A64 rs.length c64) rs.length (qs.flatMap evL) 37 11, .row (.slice A44 ((writeOut b es).length) c44) ((writeOut b es).length) (zs.map B8) 5 1, .row (.slice A27 (n2 + 12) c27) (n2 + 12) ((l ++ marks 12).map B8) 5 1, .row (.slice A24 n c24) n (es.flatMap evL) 37 11, .blk g1 (rowsCells b A n c cpu m A2 n2 c2) 27]) [1, 2, 3, 4, 5] (by decide) rfl
      refine wp_ret ?_
      exact ret1 rfl HF (.tmp HF rfl) (⟨rfl, HM.below⟩)
end Go.Proofs.YtpekelggcmgnnaaDoor

/- quantumlaw07.CodecRows answers true. -/
set_option linter.all false
namespace Go.Proofs.YtpekelggcmgnnaaDoor
open Go.RowKit
theorem rows_any (b : Bs) (A : Option Addr) (n c cpu : Nat) (m : Int) (A2 : Option Addr) (n2 c2 : Nat) (es : List Ev) (l : List Nat) (hcpu : cpu < 256) (hm : I64 m) (hok : ∀ x ∈ es, x.Ok) (hc2 : n2 ≤ c2) (hl : ∀ b ∈ l, b < 256) (hn : n ≤ 1000000) (hn2 : n2 ≤ 1000000)
    (B : Nat) (w : World) (hL : Laid B w) (hB : B ≤ w.heap.size) (hr : Rd w w.heap.size 11 A n (es.flatMap evL)) (hr2 : Rd w w.heap.size 1 A2 n2 (l.map B8)) :
    Calls Tryd.prog 11 #[.agg (rowsCells b A n c cpu m A2 n2 c2)] w (BoolPost w true) :=
  rows_walk b A n c cpu m A2 n2 c2 es l hcpu hm hok hc2 hl _ _ rfl _ _ _ rfl (readR_most (b := b) (cpu := cpu) (m := m) rfl) (writeOut_most b es) (by have := hr.len; rw [flat_len evL 11 evL_len] at this; omega) (by simpa using hr2.len) hn hn2 B w hL hB hr hr2
set_option maxRecDepth 100000 in
set_option maxHeartbeats 4000000 in
theorem codecRows_any (b : Bs) (A : Option Addr) (n c cpu : Nat) (m : Int) (A2 : Option Addr) (n2 c2 : Nat) (es : List Ev) (l : List Nat) (hcpu : cpu < 256) (hm : I64 m) (hok : ∀ x ∈ es, x.Ok) (hc2 : n2 ≤ c2) (hl : ∀ b ∈ l, b < 256)
    (B : Nat) (w : World) (hL : Laid B w) (hB : B ≤ w.heap.size) (hr : Rd w w.heap.size 11 A n (es.flatMap evL)) (hr2 : Rd w w.heap.size 1 A2 n2 (l.map B8)) :
    Calls Tryd.prog 3 #[.agg (rowsCells b A n c cpu m A2 n2 c2)] w (TruePost w) := by
  refine calls_enter (vs := [.agg (rowsCells b A n c cpu m A2 n2 c2)]) Tryd.func3 rfl rfl (by kernel_rfl) (σ0 := [(0, .agg (rowsCells b A n c cpu m A2 n2 c2))]) rfl ?_
  intro a HF
  have HM := Mem.start w
  refine wp_seq ?_
  refine from_start ?_
  refine from_op HF (i := 0) rfl rfl ?_
  refine e_box HF HM (cs := (rowsCells b A n c cpu m A2 n2 c2)) rfl rfl rfl rfl (by decide) ?_
  clear HF HM; intro a w1 g1 HF HM
  refine from_pures HF 1 1 (j := 2) [(2, .bool false)] (by kernel_rfl) rfl ?_; clear HF; intro a HF
  refine from_done rfl ?_
  replace HF := HF.sub (σ' := [(2, .bool false), (1, .pointer (some ⟨g1, 0, none⟩))]) (by kernel_rfl)
  refine wp_seq ?_
  refine from_start ?_
  refine from_pures HF 1 0 (j := 1) [(3, .pointer (some ⟨g1, 2, none⟩))] (by kernel_rfl) rfl ?_; clear HF; intro a HF
  refine from_yl (S := fun wS => Mem w wS _) HF HM (i := 1) rfl rfl (d := 4) rfl (by decide) (v := .slice A n c) (Yl.load1 rfl rfl (by kernel_rfl) (fun _ h => h.cell (i := 0) rfl rfl)) ?_; clear HF; intro a HF
  refine from_yl (S := fun wS => Mem w wS _) HF HM (i := 2) rfl rfl (d := 5) rfl (by decide) (v := .int .i64 ((n : Nat) : Int)) (Yl.len rfl rfl (by kernel_rfl)) ?_; clear HF; intro a HF
  refine from_pures HF 2 3 (j := 5) [(7, .bool (decide ((((n : Nat) : Int) : Int) > (100 : Int)))), (6, .bool (decide ((((n : Nat) : Int) : Int) > (100 : Int))))] (by kernel_rfl) rfl ?_; clear HF; intro a HF
  rcases Bool.eq_false_or_eq_true (decide ((((n : Nat) : Int) : Int) > (100 : Int))) with hb7 | hb7
  · have HF := HF.as (t := 7) (u := .bool true) rfl (by rw [hb7])
    have hsz7 := of_decide_eq_true hb7
    refine from_pures HF 10 5 (j := 15) [(17, .bool true), (16, .bool true), (15, undef), (14, undef), (13, .bool true), (12, .bool true), (11, undef), (10, undef), (9, undef), (8, undef)] (by kernel_rfl) rfl ?_; clear HF; intro a HF
    refine from_op HF (i := 15) rfl rfl ?_
    refine e_call HF (vs := []) rfl (by kernel_rfl) (by kernel_rfl) rfl (by decide) (awake_any B _ (hL.mem HM hB) (HM.le hB)) ?_
    rintro _ w18 ⟨rfl, hbw⟩
    refine ⟨_, rfl, ?_⟩
    replace HM := HM.call hbw
    clear HF; intro a HF
    refine from_pures HF 2 16 (j := 18) [(2, .bool true), (19, .bool true)] (by kernel_rfl) rfl ?_; clear HF; intro a HF
    refine from_done rfl ?_
    replace HF := HF.sub (σ' := [(2, .bool true)]) (by kernel_rfl)
    replace HM := HM.picks (fs' := []) [] (by decide) rfl
    refine wp_ret ?_
    exact ret1 rfl HF (.tmp HF rfl) (⟨rfl, HM.below⟩)
  · have HF := HF.as (t := 7) (u := .bool false) rfl (by rw [hb7])
    have hsz7 := of_decide_eq_false hb7
    refine from_pures HF 1 5 (j := 6) [(8, .pointer (some ⟨g1, 5, none⟩))] (by kernel_rfl) rfl ?_; clear HF; intro a HF
    refine from_yl (S := fun wS => Mem w wS _) HF HM (i := 6) rfl rfl (d := 9) rfl (by decide) (v := .slice A2 n2 c2) (Yl.load1 rfl rfl (by kernel_rfl) (fun _ h => h.cell (i := 0) rfl rfl)) ?_; clear HF; intro a HF
    refine from_yl (S := fun wS => Mem w wS _) HF HM (i := 7) rfl rfl (d := 10) rfl (by decide) (v := .int .i64 ((n2 : Nat) : Int)) (Yl.len rfl rfl (by kernel_rfl)) ?_; clear HF; intro a HF
    refine from_pures HF 3 8 (j := 11) [(13, .bool (decide ((((n2 : Nat) : Int) : Int) > (2000 : Int)))), (12, .bool (decide ((((n2 : Nat) : Int) : Int) > (2000 : Int)))), (11, .bool (decide ((((n2 : Nat) : Int) : Int) > (2000 : Int))))] (by kernel_rfl) rfl ?_; clear HF; intro a HF
    rcases Bool.eq_false_or_eq_true (decide ((((n2 : Nat) : Int) : Int) > (2000 : Int))) with hb13 | hb13
    · have HF := HF.as (t := 13) (u := .bool true) rfl (by rw [hb13])
      have hsz13 := of_decide_eq_true hb13
      refine from_pures HF 4 11 (j := 15) [(17, .bool true), (16, .bool true), (15, undef), (14, undef)] (by kernel_rfl) rfl ?_; clear HF; intro a HF
      refine from_op HF (i := 15) rfl rfl ?_
      refine e_call HF (vs := []) rfl (by kernel_rfl) (by kernel_rfl) rfl (by decide) (awake_any B _ (hL.mem HM hB) (HM.le hB)) ?_
      rintro _ w18 ⟨rfl, hbw⟩
      refine ⟨_, rfl, ?_⟩
      replace HM := HM.call hbw
      clear HF; intro a HF
      refine from_pures HF 2 16 (j := 18) [(2, .bool true), (19, .bool true)] (by kernel_rfl) rfl ?_; clear HF; intro a HF
      refine from_done rfl ?_
      replace HF := HF.sub (σ' := [(2, .bool true)]) (by kernel_rfl)
      replace HM := HM.picks (fs' := []) [] (by decide) rfl
      refine wp_ret ?_
      exact ret1 rfl HF (.tmp HF rfl) (⟨rfl, HM.below⟩)
    · have HF := HF.as (t := 13) (u := .bool false) rfl (by rw [hb13])
      have hsz13 := of_decide_eq_false hb13
      refine from_yl (S := fun wS => Mem w wS _) HF HM (i := 11) rfl rfl (d := 14) rfl (by decide) (v := .agg (rowsCells b A n c cpu m A2 n2 c2)) (Yl.loadS rfl rfl ⟨(by kernel_rfl), (by kernel_rfl)⟩ rfl (fun _ h => range_of_block (h.blk (i := 0) rfl))) ?_; clear HF; intro a HF
      refine from_op HF (i := 12) rfl rfl ?_
      refine e_call HF (vs := [.agg (rowsCells b A n c cpu m A2 n2 c2)]) rfl (by kernel_rfl) (by kernel_rfl) rfl (by decide) (rows_any b A n c cpu m A2 n2 c2 es l hcpu hm hok hc2 hl (by omega) (by omega) B _ (hL.mem HM hB) (HM.le hB) (HM.old hr) (HM.old hr2)) ?_
      rintro _ w15 ⟨rfl, hbw⟩
      refine ⟨_, rfl, ?_⟩
      replace HM := HM.call hbw
      clear HF; intro a HF
      refine from_pures HF 2 13 (j := 15) [(17, .bool true), (16, .bool true)] (by kernel_rfl) rfl ?_; clear HF; intro a HF
      refine from_op HF (i := 15) rfl rfl ?_
      refine e_call HF (vs := []) rfl (by kernel_rfl) (by kernel_rfl) rfl (by decide) (awake_any B _ (hL.mem HM hB) (HM.le hB)) ?_
      rintro _ w18 ⟨rfl, hbw⟩
      refine ⟨_, rfl, ?_⟩
      replace HM := HM.call hbw
      clear HF; intro a HF
      refine from_pures HF 2 16 (j := 18) [(2, .bool true), (19, .bool true)] (by kernel_rfl) rfl ?_; clear HF; intro a HF
      refine from_done rfl ?_
      replace HF := HF.sub (σ' := [(2, .bool true)]) (by kernel_rfl)
      replace HM := HM.picks (fs' := []) [] (by decide) rfl
      refine wp_ret ?_
      exact ret1 rfl HF (.tmp HF rfl) (⟨rfl, HM.below⟩)
end Go.Proofs.YtpekelggcmgnnaaDoor

