/- Parts. -/
import Derived.Test.YtfeheccoijnbaaaDoorQZ3
set_option linter.all false
set_option maxRecDepth 100000
set_option maxHeartbeats 8000000
namespace Go.Proofs.YtfeheccoijnbaaaDoor
open Go.RowKit
theorem Rd.qvm {w : World} {B : Nat} {l : List Nat} (h : Rd w B 1 none l.length (l.map B8)) : l = [] := by
 rcases Nat.eq_zero_or_pos l.length with h0 | h0
 ·exact List.length_eq_zero_iff.1 h0
 ·obtain ⟨a, ha, _⟩ := h.row h0
  cases ha
theorem LaidX.mem2 {B : Nat} {W w w' : World} {fs gs : List Fact} (h : LaidX B w) (HW : Mem W w fs) (HM : Mem W w' gs) (hB : B ≤ W.heap.size) : LaidX B w' := h.qao fun p hp => by
 rw [HM.below.cell (by omega), HW.below.cell (by omega)]
theorem Mem.qw2 {W w : World} {a b : List Fact} {t : TypeId} {q : List Hb} (h : Mem W w (a ++ (hbF t q ++ b))) : HbRd w q := h.hbRd fun _ hf => List.mem_append_right _ (List.mem_append_left _ hf)
theorem qiy {cpu lim : Nat} {opn : Int} (hl : 0 < lim) : ∀ (f : Nat) (l : List It), GoodI cpu l opn → (∀ b ∈ cutGo cpu opn lim f l, b.Ok ∧ b.evs.length ≤ l.length) ∧ (cutGo cpu opn lim f l).length ≤ l.length
 | 0, l, _ => ⟨fun b hb => (by cases hb), Nat.zero_le _⟩
 | f + 1, l, h => by
  rcases Nat.eq_zero_or_pos l.length with h0 | h0
  ·rw [qhb h0]; exact ⟨fun b hb => (by cases hb), Nat.zero_le _⟩
  ·rw [qfy h0 (by omega)]
   obtain ⟨h1, h2, _⟩ := qjn h hl h0
   obtain ⟨i1, i2⟩ := qiy hl f _ (h.drop (cutN cpu l opn lim))
   rw [List.length_drop] at i2
   refine ⟨fun b hb => ?_, ?_⟩
   ·rcases List.mem_cons.1 hb with rfl | hb
    ·exact ⟨qrc h _, by rw [qbh h2]; exact h2⟩
    ·have h3 := i1 b hb
     rw [List.length_drop] at h3
     exact ⟨h3.1, by omega⟩
   ·rw [List.length_cons, Nat.add_sub_cancel]; omega
theorem qr7 {cpu : Nat} {l : List It} {opn lim : Int} {bs : List Bk} {ce : Nat} (hcpu : cpu < 256) (hok : ∀ x ∈ l, x.Ok) (ho : I64 opn) (h : cutS cpu l opn lim = (bs, ce)) : (∀ b ∈ bs, b.Ok) ∧ (∀ b ∈ bs, b.evs.length ≤ l.length) ∧ bs.length ≤ l.length + 1 := by
 have nil : (∀ b ∈ ([] : List Bk), b.Ok) ∧ (∀ b ∈ ([] : List Bk), b.evs.length ≤ l.length) ∧ ([] : List Bk).length ≤ l.length + 1 := ⟨fun b hb => (by cases hb), fun b hb => (by cases hb), Nat.zero_le _⟩
 unfold cutS at h
 split at h
 ·injection h with h _; subst h; exact nil
 ·rename_i h1
  split at h
  ·injection h with h _; subst h; exact nil
  ·rename_i h2
   split at h
   ·injection h with h _
    subst h
    split
    ·exact nil
    ·refine ⟨fun b hb => ?_, fun b hb => ?_, by simp⟩
     ·rw [List.mem_singleton] at hb; subst hb
      exact ⟨by show 1 < 256; decide, hcpu, ho, by show I64 0; unfold I64; decide, fun e he => by cases he⟩
     ·rw [List.mem_singleton] at hb; subst hb; exact Nat.zero_le _
   ·injection h with h _
    subst h
    have hG := GoodI.of (by omega) hok (show zr cpu l opn = true by simpa using h2)
    obtain ⟨i1, i2⟩ := qiy (cpu := cpu) (lim := lim.toNat) (opn := opn) (by omega) l.length l hG
    exact ⟨fun b hb => (i1 b hb).1, fun b hb => (i1 b hb).2, by omega⟩
def pick9 : Ev := { Ev.zero with seq := 9, time := 340, cpu := 2, kind := 6 }
def exI : List It := [⟨tickE, 3⟩, ⟨pick9, 0⟩]
theorem qvg : pick9.Ok := ⟨⟨by decide, by decide⟩, ⟨by decide, by decide⟩, by decide, by decide, ⟨by decide, by decide⟩, ⟨by decide, by decide⟩, ⟨by decide, by decide⟩, ⟨by decide, by decide⟩, ⟨by decide, by decide⟩, by decide, ⟨by decide, by decide⟩⟩
theorem qui : ∀ x ∈ exI, x.Ok := by
 intro x hx
 simp only [exI, List.mem_cons, List.not_mem_nil, or_false] at hx
 rcases hx with rfl | rfl
 ·exact ⟨qwb, by show I64 3; unfold I64; decide⟩
 ·exact ⟨qvg, by show I64 0; unfold I64; decide⟩
theorem sa1 : cutS 2 exI 2 1 = ([⟨1, 2, 3, 0, [tickE]⟩, ⟨1, 2, 2, 0, [pick9]⟩], 0) := by decide +kernel
theorem sa2 : cutS 2 exI 2 2 = ([⟨1, 2, 5, 0, [tickE, pick9]⟩], 0) := by decide +kernel
theorem sa3 : cutS 2 [] 0 1 = ([], 0) := by decide +kernel
theorem sa4 : cutS 2 [] 2 1 = ([⟨1, 2, 2, 0, []⟩], 0) := by decide +kernel
theorem sa5 : qbb [] [endB 0] = ([], 107) := by decide +kernel
theorem sa6 : qbb [] [endB 7] = (awX, 0) := by decide +kernel
theorem sa7 : qgd (awX ++ [1]) = ([⟨2, 0, 0, 7, []⟩], 13, 100) := by decide +kernel
theorem sa8 : nextR awX 0 = (⟨2, 0, 0, 7, []⟩, 13, 0) := by decide +kernel
theorem sa9 : nextR awX 13 = (Bk.zero, 0, 6) := by decide +kernel
theorem qvh : ∀ b ∈ awX ++ [1], b < 256 := by decide
theorem map1 {q : List Hb} {b : Bk} (h : q.map Hb.b = [b]) : ∃ x, q = [x] ∧ x.b = b := by
 cases q with
 | nil => cases h
 | cons x r =>
  cases r with
  | nil => injection h with h _; exact ⟨x, rfl, h⟩
  | cons y r => injection h with _ h; cases h
theorem map2 {q : List Hb} {b d : Bk} (h : q.map Hb.b = [b, d]) : ∃ x y, q = [x, y] ∧ x.b = b ∧ y.b = d := by
 cases q with
 | nil => cases h
 | cons x r =>
  injection h with h1 h2
  obtain ⟨y, rfl, h3⟩ := map1 h2
  exact ⟨x, y, rfl, h1, h3⟩
section
variable {W w : World} {a b c : List Fact} {t : TypeId} {q : List Hb}
theorem Mem.qww (h : Mem W w (a ++ (c ++ (hbF t q ++ b)))) : HbRd w q := h.hbRd fun _ hf => List.mem_append_right _ (List.mem_append_right _ (List.mem_append_left _ hf))
theorem Mem.qw3 (h : Mem W w (a ++ (c ++ b))) : Mem W w (a ++ b) := h.subl (List.Sublist.append_left (List.sublist_append_right c b) a)
end
instance itDec : DecidableEq It := fun ⟨a, b⟩ ⟨c, d⟩ => decidable_of_iff (a = c ∧ b = d) (by rw [It.mk.injEq])
theorem qtw (x y : It) : qau Tryd.prog 4 47 (.agg x.cells) (.agg y.cells) = some (decide (x = y)) := by
 have h : qau Tryd.prog 4 47 (.agg x.cells) (.agg y.cells) = some (((x.e.seq == y.e.seq) && ((x.e.time == y.e.time) && (((x.e.cpu : Int) == y.e.cpu) && (((x.e.kind : Int) == y.e.kind) && ((x.e.task == y.e.task) && ((x.e.group == y.e.group) && ((x.e.to == y.e.to) && ((x.e.weight == y.e.weight) && ((x.e.ticks == y.e.ticks) && (((x.e.mask : Int) == y.e.mask) && ((x.e.got == y.e.got) && true))))))))))) && ((x.before == y.before) && true)) := by kernel_rfl
 refine h.trans (congrArg some ?_)
 clear h
 obtain ⟨⟨a0, a1, a2, a3, a4, a5, a6, a7, a8, a9, a10⟩, a11⟩ := x
 obtain ⟨⟨b0, b1, b2, b3, b4, b5, b6, b7, b8, b9, b10⟩, b11⟩ := y
 rw [Bool.eq_iff_iff]
 simp only [Bool.and_eq_true, beq_iff_eq, decide_eq_true_eq, It.mk.injEq, Ev.mk.injEq, and_true]
 omega
theorem qms (A : Option Addr) (c : Nat) (q : List Hb) (B : Nat) (w : World) (hL : LaidX B w) (hB : B ≤ w.heap.size) (hr : Rd w w.heap.size 5 A q.length (q.flatMap hbL)) (hQ : HbRd w q) (hok : ∀ h ∈ q, h.b.Ok) (hev : ∀ h ∈ q, h.b.evs.length ≤ 1000000) (hn : q.length ≤ 1000000) :
    Calls Tryd.prog 20 #[.slice A q.length c] w (qar w (qag (q.map Hb.b)).2 (qag (q.map Hb.b)).1) := by
 refine qg (vs := [.slice A q.length c]) Tryd.func20 rfl rfl (by kernel_rfl) (σ0 := [(0, .slice A q.length c)]) rfl ?_
 intro a HF
 have HM := Mem.start w
 refine wp_seq (qa ?_)
 refine fp HF 2 0 [(3, vI 0), (2, .slice none 0 0)] fun a HF => ?_
 refine qb rfl (wp_seq (qa ?_))
 refine fp HF 1 0 [(4, .slice none 0 0)] fun a HF => ?_
 refine qb rfl (wp_seq (qa ?_))
 refine fp HF 1 0 [(5, .bool false)] fun a HF => ?_
 refine qb rfl ?_
 replace HM := HM.nil 5 1
 refine wp_seq (wp_seq (qa ?_))
 refine fp HF 1 0 [(10, .slice A q.length c)] fun a HF => ?_
 refine fy HF HM 1 rfl rfl rfl (Yl.len rfl rfl (by kernel_rfl)) fun a HF => ?_
 refine fp HF 1 2 [(12, vI 0)] fun a HF => ?_
 refine qb rfl (wp_block ?_)
 refine qs (fun mS aS wS => ∃ (k : Nat) (lg : Bool) (R : List Nat) (Ao : Option Addr) (co : Nat), (k ≤ q.length) ∧ (errL (q.map Hb.b) = errL ((q.drop k).map Hb.b)) ∧ (lg = decide (524288 < (outsL ((q.take k).map Hb.b)).length)) ∧ (lg = false → R = outsL ((q.take k).map Hb.b)) ∧ (R.length ≤ 524288) ∧ (R.length ≤ co) ∧ mS = q.length - k ∧ Fr aS 41 [] [(12, vI k), (11, vI q.length), (10, .slice A q.length c), (5, .bool lg), (4, .slice Ao R.length co), (3, vI 0), (2, .slice none 0 0)] ∧ Mem w wS [.row (.slice Ao R.length co) R.length (R.map B8) 5 1]) (m := q.length - 0) ⟨0, false, [], none, 0, Nat.zero_le _, by rw [List.drop_zero], rfl, by intro _; rfl, by simp, Nat.le_refl _, rfl, HF.sub (by kernel_rfl), HM.picks [0] (by decide) rfl⟩ ?_
 clear HF HM; rintro mS a w_ ⟨k, lg, R, Ao, co, hk, her, hlg, hR, hRl, hco, rfl, HF, HM⟩
 refine wp_seq (qa ?_)
 refine fp HF 1 0 [(13, .bool (decide ((k : Int) < (q.length : Int))))] fun a HF => ?_
 refine qb rfl (wp_seq ?_)
 rcases HF.tf 13 rfl with ⟨hb13, HF⟩ | ⟨hb13, HF⟩
 ·
  have hd13 := of_decide_eq_true hb13
  have hk13 : k < q.length := by omega
  have hat := qwk hk13
  have hoq := congrArg List.length (qug hk13)
  rw [List.length_append] at hoq
  have hol := qqv (q.getD k Hb.zero).b
  have htk := qr4 (q := q) k
  refine qe HF rfl (wp_skip (wp_seq (wp_block (wp_seq (qa ?_)))))
  obtain ⟨gA, oA, rfl, _⟩ := hr.zm (Nat.lt_of_le_of_lt (Nat.zero_le _) (show k < q.length from by omega)) (by decide)
  refine fy HF HM 0 rfl rfl rfl (v := vP gA (oA + k * 5)) (Yl.ix gA oA k 5 rfl rfl rfl) fun a HF => ?_
  refine fy HF HM 1 rfl rfl rfl (v := .agg ((q.getD k Hb.zero).b.cells (q.getD k Hb.zero).A (q.getD k Hb.zero).c)) (Yl.zl rfl rfl si_bk rfl (fun _ h => (h.old hr).qad qcl ((getD_at Hb.zero (k := k) (by first | omega | (simp; omega)))))) fun a HF => ?_
  refine fo HF 2 rfl rfl ?_
  refine qq HF HM (cs := #[vB 0, vB 0, vI 0, vI 0, .slice none 0 0]) rfl (by kernel_rfl) rfl (by decide) ?_
  clear HF HM; intro a w7 g7 HF HM
  refine fo HF 3 rfl rfl ?_
  refine e_sa HF HM 0 rfl rfl rfl rfl rfl si_bk rfl rfl (qbv _ _ _) ?_
  clear HM; intro w5_3 HM
  refine qb rfl (wp_seq (qa ?_))
  refine fy HF HM 0 rfl rfl rfl (v := .agg ((q.getD k Hb.zero).b.cells (q.getD k Hb.zero).A (q.getD k Hb.zero).c)) (Yl.zl rfl rfl si_bk rfl (fun _ h => qf (h.blk (i := 0) rfl))) fun a HF => ?_
  refine fo HF 1 rfl rfl ?_
  refine e_cl HF [.agg ((q.getD k Hb.zero).b.cells (q.getD k Hb.zero).A (q.getD k Hb.zero).c)] rfl rfl (qq4 (q.getD k Hb.zero).b (hok _ (qaz Hb.zero hk13)) ((q.getD k Hb.zero).A) (q.getD k Hb.zero).c B _ (hL.mem HM hB) (HM.le hB) (HM.old (hQ.at hk13)) (hev _ (qaz Hb.zero hk13)) rfl rfl) ?_
  rintro _ w18 ⟨⟨A18, c18, rfl, ho, hc18⟩, hbw⟩
  refine ⟨_, rfl, ?_⟩
  replace HM := HM.callRow hbw ho
  clear HF; intro a HF
  refine fp HF 5 2 [(9, vI ((q.getD k Hb.zero).b.err)), (8, .slice A18 ((q.getD k Hb.zero).b.out.length) c18)] fun a HF => ?_
  refine qb rfl (wp_seq (wp_seq (qa ?_)))
  refine fp HF 2 0 [(22, .bool (((q.getD k Hb.zero).b.err : Int) != (0 : Int)))] fun a HF => ?_
  refine qb rfl ?_
  rcases HF.tf 22 rfl with ⟨hb22, HF⟩ | ⟨hb22, HF⟩
  ·
   have hd22 := bne_iff_ne.1 hb22
   have hE : errL (q.map Hb.b) = (q.getD k Hb.zero).b.err := by rw [her, hat, if_neg (by omega)]
   refine qe HF rfl (wp_seq (qa ?_))
   refine fp HF 3 0 [(3, vI ((q.getD k Hb.zero).b.err)), (2, .slice none 0 0)] fun a HF => ?_
   refine qb rfl (wp_ret ?_)
   exact ret2 rfl HF (.tmp HF rfl) (.tmp HF rfl) (qix HM.below (qo0 (by rw [hE]; omega)) (by rw [hE]))
  have hd22 := bne_eq_false_iff_eq.1 hb22
  have hE : errL (q.map Hb.b) = errL ((q.drop (k + 1)).map Hb.b) := by rw [her, hat, if_pos (by omega)]
  refine qd HF rfl (wp_skip (wp_seq (qa ?_)))
  refine fp HF 2 0 [(25, .bool lg)] fun a HF => ?_
  rcases HF.tf 25 rfl with ⟨hb25, HF⟩ | ⟨hb25, HF⟩
  ·
   have hlong : 524288 < (outsL ((q.take k).map Hb.b)).length := of_decide_eq_true (hlg.symm.trans hb25)
   refine fp HF 8 2 [(5, .bool true)] fun a HF => ?_
   refine qb rfl (wp_seq (qa ?_))
   refine fp HF 2 0 [(34, .bool false)] fun a HF => ?_
   refine qb rfl (qd HF rfl (wp_skip (qa ?_)))
   refine fp HF 1 0 [(38, vI (IntKind.i64.wrap ((k : Int) + 1)))] fun a HF => ?_
   replace HF := HF.sp 38 (vI (k + 1 : Nat)) rfl (qo (by omega) (by omega))
   refine fp HF 1 1 [(12, vI (k + 1 : Nat))] fun a HF => ?_
   refine qb rfl ?_
   exact ⟨_, (by omega), k + 1, true, R, Ao, co, by omega, hE, (decide_eq_true (by omega)).symm, (by intro h; cases h), hRl, hco, rfl, HF.sub (by kernel_rfl), HM.picks [2] (by decide) rfl⟩
  have hlong : ¬ 524288 < (outsL ((q.take k).map Hb.b)).length := of_decide_eq_false (hlg.symm.trans hb25)
  have hRe := hR hb25
  have hRl2 : R.length = (outsL ((q.take k).map Hb.b)).length := by rw [hRe]
  refine fp HF 1 2 [(26, .slice Ao R.length co)] fun a HF => ?_
  refine fy HF HM 3 rfl rfl rfl (Yl.len rfl rfl (by kernel_rfl)) fun a HF => ?_
  refine fp HF 1 4 [(28, .slice A18 ((q.getD k Hb.zero).b.out.length) c18)] fun a HF => ?_
  refine fy HF HM 5 rfl rfl rfl (Yl.len rfl rfl (by kernel_rfl)) fun a HF => ?_
  refine fp HF 1 6 [(30, vI (IntKind.i64.wrap ((R.length : Int) + (((q.getD k Hb.zero).b.out.length : Nat) : Int))))] fun a HF => ?_
  replace HF := HF.sp 30 (vI (R.length + ((q.getD k Hb.zero).b.out.length) : Nat)) rfl (qo (by omega) (by omega))
  refine fp HF 3 7 [(5, .bool (decide (((R.length + ((q.getD k Hb.zero).b.out.length) : Nat) : Int) > (524288 : Int))))] fun a HF => ?_
  refine qb rfl (wp_seq (qa ?_))
  refine fp HF 2 0 [(34, .bool (!(decide (((R.length + ((q.getD k Hb.zero).b.out.length) : Nat) : Int) > (524288 : Int)))))] fun a HF => ?_
  refine qb rfl ?_
  rcases HF.tf 34 rfl with ⟨hb34, HF⟩ | ⟨hb34, HF⟩
  ·
   have hd34 := of_decide_eq_false ((Bool.not_eq_true' _).mp hb34)
   replace HF := HF.on 5 ((Bool.not_eq_true' _).mp hb34)
   refine qe HF rfl (qa ?_)
   refine fp HF 2 0 [(36, .slice A18 ((q.getD k Hb.zero).b.out.length) c18), (35, .slice Ao R.length co)] fun a HF => ?_
   refine fo HF 2 rfl rfl ?_
   refine qz HF HM (i := 2) rfl ei_u8 rfl rfl rfl (news := ((q.getD k Hb.zero).b.out.map B8)) (HM.rd (i := 0) rfl) (qbp _) (by omega) (by omega) rfl (by decide) ?_
   clear HF HM; intro a w37 A37 c37 HF HM hc37
   rw [show (R.map B8) ++ ((q.getD k Hb.zero).b.out.map B8) = (R ++ (q.getD k Hb.zero).b.out).map B8 from by rw [List.map_append]] at HM
   refine fp HF 1 3 [(4, .slice A37 (R.length + ((q.getD k Hb.zero).b.out.length)) c37)] fun a HF => ?_
   refine qb rfl ?_
   have hnA37 : R.length + ((q.getD k Hb.zero).b.out.length) = (R ++ (q.getD k Hb.zero).b.out).length := by rw [List.length_append]
   replace HM := HM.reRow (i := 2) (ys := (R ++ (q.getD k Hb.zero).b.out).map B8) rfl hnA37 (rfl)
   rw [hnA37] at hc37
   replace HF := HF.as (t := 4) (u := .slice A37 ((R ++ (q.getD k Hb.zero).b.out).length) c37) rfl (by rw [hnA37])
   replace HF := HF.as (t := 37) (u := .slice A37 ((R ++ (q.getD k Hb.zero).b.out).length) c37) rfl (by rw [hnA37])
   refine qa ?_
   refine fp HF 1 0 [(38, vI (IntKind.i64.wrap ((k : Int) + 1)))] fun a HF => ?_
   replace HF := HF.sp 38 (vI (k + 1 : Nat)) rfl (qo (by omega) (by omega))
   refine fp HF 1 1 [(12, vI (k + 1 : Nat))] fun a HF => ?_
   refine qb rfl ?_
   exact ⟨_, (by omega), k + 1, false, (R ++ (q.getD k Hb.zero).b.out), A37, c37, by omega, hE, (decide_eq_false (by omega)).symm, (by intro _; rw [hRe, qug hk13]), (by rw [List.length_append]; omega), hc37, rfl, HF.sub (by kernel_rfl), HM.picks [2] (by decide) rfl⟩
  have hd34 := of_decide_eq_true ((Bool.not_eq_false' _).mp hb34)
  replace HF := HF.on 5 ((Bool.not_eq_false' _).mp hb34)
  refine qd HF rfl (wp_skip (qa ?_))
  refine fp HF 1 0 [(38, vI (IntKind.i64.wrap ((k : Int) + 1)))] fun a HF => ?_
  replace HF := HF.sp 38 (vI (k + 1 : Nat)) rfl (qo (by omega) (by omega))
  refine fp HF 1 1 [(12, vI (k + 1 : Nat))] fun a HF => ?_
  refine qb rfl ?_
  exact ⟨_, (by omega), k + 1, true, R, Ao, co, by omega, hE, (decide_eq_true (by omega)).symm, (by intro h; cases h), hRl, hco, rfl, HF.sub (by kernel_rfl), HM.picks [2] (by decide) rfl⟩
 have hd13 := of_decide_eq_false hb13
 have hkn : k = q.length := by omega
 have hdn : errL (q.map Hb.b) = 0 := by rw [her, List.drop_of_length_le (by omega)]; rfl
 have htn : q.take k = q := List.take_of_length_le (by omega)
 rw [htn] at hlg hR
 refine qd HF rfl (wp_exit (wp_seq (wp_seq (qa ?_))))
 refine fp HF 1 0 [(39, .bool lg)] fun a HF => ?_
 refine qb rfl ?_
 rcases HF.tf 39 rfl with ⟨hb39, HF⟩ | ⟨hb39, HF⟩
 ·
  have hlong : 524288 < (outsL (q.map Hb.b)).length := of_decide_eq_true (hlg.symm.trans hb39)
  refine qe HF rfl (wp_seq (qa ?_))
  refine fp HF 2 0 [(3, vI 3), (2, .slice none 0 0)] fun a HF => ?_
  refine qb rfl (wp_ret ?_)
  exact ret2 rfl HF (.tmp HF rfl) (.tmp HF rfl) (qix HM.below (qmp hdn hlong) rfl)
 have hlong : ¬ 524288 < (outsL (q.map Hb.b)).length := of_decide_eq_false (hlg.symm.trans hb39)
 have hRe := hR hb39
 refine qd HF rfl (wp_skip (wp_seq (qa ?_)))
 refine fp HF 3 0 [(3, vI 0), (2, .slice Ao R.length co)] fun a HF => ?_
 refine qb rfl (wp_ret ?_)
 exact ret2 rfl HF (.tmp HF rfl) (.tmp HF rfl) (by rw [qr3 hdn hlong, ← hRe]; exact ⟨⟨Ao, co, rfl, HM.own (i := 0) rfl, hco⟩, HM.below⟩)
theorem qo5 (g : Nat) (lim : Int) (A : Option Addr) (n c : Nat) (w : World) (hg : w.heap[g]? = some (.cells #[.int .i64 lim, .slice A n c] 95 (0, 0))) :
    Calls Tryd.prog 39 #[.pointer (some ⟨g, 0, none⟩)] w (Is w (.bool (lim == 0))) := by
 refine qg (vs := [vP g 0]) Tryd.func39 rfl rfl (by kernel_rfl) (σ0 := [(0, vP g 0)]) rfl ?_
 intro a HF
 have HM := Mem.start w
 refine wp_seq (qa ?_)
 refine fp HF 1 0 [(2, .bool false)] fun a HF => ?_
 refine qb rfl (wp_seq (qa ?_))
 refine fp HF 1 0 [(3, vP g 0)] fun a HF => ?_
 refine fy HF HM 1 rfl rfl rfl (v := .bool false) (Yl.qnv rfl rfl rfl) fun a HF => ?_
 refine fp HF 2 2 [(6, vP g 0), (5, .bool false)] fun a HF => ?_
 refine fy HF HM 4 rfl rfl rfl (v := vP g 0) (Yl.nilCheck rfl rfl) fun a HF => ?_
 refine fp HF 1 5 [(8, vP g 0)] fun a HF => ?_
 refine fy HF HM 6 rfl rfl rfl (v := vI lim) (Yl.qh rfl rfl (by kernel_rfl) (fun _ h => h.zk hg rfl)) fun a HF => ?_
 refine fp HF 3 7 [(2, .bool ((lim : Int) == (0 : Int)))] fun a HF => ?_
 refine qb rfl (wp_ret ?_)
 exact ret1 rfl HF (.tmp HF rfl) (⟨rfl, HM.below⟩)
theorem qhn (g : Nat) (lim : Int) (A : Option Addr) (n c : Nat) (w : World) (hg : w.heap[g]? = some (.cells #[.int .i64 lim, .slice A n c] 95 (0, 0))) (hlim : lim ≠ 0) :
  Calls Tryd.prog 39 #[.pointer (some ⟨g, 0, none⟩)] w (Is w (.bool false)) := by
 have h := qo5 g lim A n c w hg
 rwa [beq_false_of_ne hlim] at h
theorem qlh (A : Option Addr) (c : Nat) (l : List Nat) (w : World) (hr : Rd w w.heap.size 1 A l.length (l.map B8)) (hn : l.length ≤ 100000000) :
    Calls Tryd.prog 41 #[.slice A l.length c] w (zz w l) := by
 refine qg (vs := [.slice A l.length c]) Tryd.func41 rfl rfl (by kernel_rfl) (σ0 := [(0, .slice A l.length c)]) rfl ?_
 intro a HF
 have HM := Mem.start w
 refine wp_seq (qa ?_)
 refine fp HF 1 0 [(2, .slice none 0 0)] fun a HF => ?_
 refine qb rfl (wp_seq (wp_seq (qa ?_)))
 refine fp HF 1 0 [(3, .slice A l.length c)] fun a HF => ?_
 refine fy HF HM 1 rfl rfl rfl (v := .bool A.isNone) (Yl.qw1 rfl rfl rfl) fun a HF => ?_
 refine qb rfl ?_
 rcases HF.tf 4 rfl with ⟨hb4, HF⟩ | ⟨hb4, HF⟩
 ·
  obtain rfl : A = none := by cases A with | none => rfl | some a => cases hb4
  obtain rfl : l = [] := hr.qvm
  refine qe HF rfl (wp_seq (qa ?_))
  refine fp HF 1 0 [(2, .slice none 0 0)] fun a HF => ?_
  refine qb rfl (wp_ret ?_)
  exact ret1 rfl HF (.tmp HF rfl) (⟨⟨none, 0, rfl, World.ownsRow_nil _ _ _ _, Nat.le_refl _⟩, HM.below⟩)
 refine qd HF rfl (wp_skip (wp_seq (qa ?_)))
 refine fo HF 0 rfl rfl ?_
 refine qm4 HF HM rfl ei_u8 rfl (by decide) ?_
 clear HF HM; intro a w5 g5 HF HM
 refine fp HF 1 1 [(6, .slice A l.length c)] fun a HF => ?_
 refine fo HF 2 rfl rfl ?_
 refine qz HF HM (i := 0) rfl ei_u8 rfl rfl rfl (news := (l.map B8)) (HM.old hr) (qbp _) (by omega) (by omega) rfl (by decide) ?_
 clear HF HM; intro a w7 A7 c7 HF HM hc7
 refine fp HF 1 3 [(2, .slice A7 (0 + l.length) c7)] fun a HF => ?_
 refine qb rfl (wp_ret ?_)
 exact ret1 rfl HF (.tmp HF rfl) (⟨⟨A7, c7, by rw [Nat.zero_add], by have h := HM.own (i := 0) rfl; rwa [Nat.zero_add, List.nil_append] at h, by omega⟩, HM.below⟩)
def NewIs (w : World) (lim : Int) (r : Ending) (w' : World) : Prop := ((lim < 1 ∨ 4096 < lim) ∧ Is w (.tuple #[.pointer none, .int .i64 2]) r w') ∨ (¬ (lim < 1 ∨ 4096 < lim) ∧ ∃ g, r = .returned (.tuple #[.pointer (some ⟨g, 0, none⟩), .int .i64 0]) ∧ Mem w w' [.blk g #[.int .i64 lim, .slice none 0 0] 95])
theorem qnr {w w' : World} {lim : Int} (h : lim < 1 ∨ 4096 < lim) (hb : Below w.heap.size w w') : NewIs w lim (.returned (.tuple #[.pointer none, .int .i64 2])) w' := .inl ⟨h, rfl, hb⟩
theorem qtt {w w' : World} {lim : Int} {g : Nat} (h : ¬ (lim < 1 ∨ 4096 < lim)) (hm : Mem w w' [.blk g #[.int .i64 lim, .slice none 0 0] 95]) : NewIs w lim (.returned (.tuple #[.pointer (some ⟨g, 0, none⟩), .int .i64 0])) w' := .inr ⟨h, g, rfl, hm⟩
theorem qr8 (lim : Int) (hl : I64 lim) (w : World) :
    Calls Tryd.prog 14 #[.int .i64 lim] w (NewIs w lim) := by
 refine qg (vs := [vI lim]) Tryd.func14 rfl rfl (by kernel_rfl) (σ0 := [(0, vI lim)]) rfl ?_
 intro a HF
 have HM := Mem.start w
 refine wp_seq (qa ?_)
 refine fp HF 2 0 [(3, vI 0), (2, .pointer none)] fun a HF => ?_
 refine qb rfl (wp_seq (wp_seq (qa ?_)))
 refine fp HF 3 0 [(6, .bool (decide ((lim : Int) < (1 : Int))))] fun a HF => ?_
 rcases HF.tf 6 rfl with ⟨hb6, HF⟩ | ⟨hb6, HF⟩
 ·
  have hd6 := of_decide_eq_true hb6
  refine fp HF 3 3 [(9, .bool true)] fun a HF => ?_
  refine qb rfl (qe HF rfl (wp_seq (qa ?_)))
  refine fp HF 2 0 [(3, vI 2), (2, .pointer none)] fun a HF => ?_
  refine qb rfl (wp_ret ?_)
  exact ret2 rfl HF (.tmp HF rfl) (.tmp HF rfl) (qnr (by omega) HM.below)
 have hd6 := of_decide_eq_false hb6
 refine fp HF 3 3 [(9, .bool (decide ((lim : Int) > (4096 : Int))))] fun a HF => ?_
 refine qb rfl ?_
 rcases HF.tf 9 rfl with ⟨hb9, HF⟩ | ⟨hb9, HF⟩
 ·
  have hd9 := of_decide_eq_true hb9
  refine qe HF rfl (wp_seq (qa ?_))
  refine fp HF 2 0 [(3, vI 2), (2, .pointer none)] fun a HF => ?_
  refine qb rfl (wp_ret ?_)
  exact ret2 rfl HF (.tmp HF rfl) (.tmp HF rfl) (qnr (by omega) HM.below)
 have hd9 := of_decide_eq_false hb9
 refine qd HF rfl (wp_skip (wp_seq (qa ?_)))
 refine fp HF 1 0 [(10, vI lim)] fun a HF => ?_
 refine fy HF HM 1 rfl rfl rfl (v := .agg #[vI lim, .slice none 0 0]) (Yl.build (vs := [(0, vI lim)]) rfl (by kernel_rfl) (by kernel_rfl)) fun a HF => ?_
 refine fo HF 2 rfl rfl ?_
 refine e_box HF HM (cs := #[vI lim, .slice none 0 0]) rfl rfl rfl rfl (by decide) ?_
 clear HF HM; intro a w12 g12 HF HM
 refine fp HF 2 3 [(3, vI 0), (2, vP g12 0)] fun a HF => ?_
 refine qb rfl (wp_ret ?_)
 exact ret2 rfl HF (.tmp HF rfl) (.tmp HF rfl) (qtt (by omega) (HM.picks [0] (by decide) rfl))
theorem qo6 (A : Option Addr) (c : Nat) (q : List Hb) (B : Nat) (w : World) (hL : LaidX B w) (hB : B ≤ w.heap.size) (hr : Rd w w.heap.size 5 A q.length (q.flatMap hbL)) (hQ : HbRd w q) (hok : ∀ h ∈ q, h.b.Ok) (hev : ∀ h ∈ q, h.b.evs.length ≤ 1000000) (hn : q.length ≤ 1000000) {R : List Nat} {er : Nat} (h : qag (q.map Hb.b) = (R, er)) :
  Calls Tryd.prog 20 #[.slice A q.length c] w (qar w er R) := by
 have h1 := qms A c q B w hL hB hr hQ hok hev hn
 rw [h] at h1
 exact h1
theorem qli (W w : World) (g : Nat) (lim : Int) (A : Option Addr) (c : Nat) (out : List Nat) (fs : List Fact) (HW : Mem W w (.blk g #[.int .i64 lim, .slice A out.length c] 95 :: .row (.slice A out.length c) out.length (out.map B8) 5 1 :: fs)) (hc : out.length ≤ c) (hout : out.length ≤ 524288) (A2 : Option Addr) (c2 : Nat) (q : List Hb) (B : Nat) (hL : LaidX B w) (hBW : B ≤ W.heap.size) (hr : Rd w w.heap.size 5 A2 q.length (q.flatMap hbL)) (hQ : HbRd w q) (hok : ∀ h ∈ q, h.b.Ok) (hev : ∀ h ∈ q, h.b.evs.length ≤ 1000000) (hn : q.length ≤ 1000000) :
    Calls Tryd.prog 40 #[.pointer (some ⟨g, 0, none⟩), .slice A2 q.length c2] w (WrIs W 95 g lim (qbb out (q.map Hb.b)).1 fs (.int .i64 ((qbb out (q.map Hb.b)).2 : Int))) := by
 have hg := HW.blk (i := 0) rfl
 have hB := Nat.le_trans hBW HW.size
 have hrA := HW.rd (i := 1) rfl
 refine qg (vs := [vP g 0, .slice A2 q.length c2]) Tryd.func40 rfl rfl (by kernel_rfl) (σ0 := [(0, vP g 0), (1, .slice A2 q.length c2)]) rfl ?_
 intro a HF
 have HM := Mem.start w
 refine wp_seq (qa ?_)
 refine fp HF 1 0 [(4, vI 0)] fun a HF => ?_
 refine qb rfl ?_
 obtain ⟨R, er, hws⟩ : ∃ R er, qag (q.map Hb.b) = (R, er) := ⟨_, _, rfl⟩
 have hRl : R.length ≤ 524288 := by have h := qo1 (q.map Hb.b); rw [hws] at h; exact h
 refine wp_seq (qa ?_)
 refine fp HF 1 0 [(8, .slice A2 q.length c2)] fun a HF => ?_
 refine fo HF 1 rfl rfl ?_
 refine e_cl HF [.slice A2 q.length c2] rfl rfl (qo6 A2 c2 q B _ (hL.mem HM hB) (HM.le hB) (HM.old hr) (HbRd.old hQ HM) hok hev hn hws) ?_
 rintro _ w9 ⟨⟨A9, c9, rfl, ho, hc9⟩, hbw⟩
 refine ⟨_, rfl, ?_⟩
 replace HM := HM.callRow hbw ho
 clear HF; intro a HF
 refine fp HF 5 2 [(6, vI er), (5, .slice A9 R.length c9)] fun a HF => ?_
 refine qb rfl (wp_seq (wp_seq (qa ?_)))
 refine fp HF 2 0 [(13, .bool ((er : Int) != (0 : Int)))] fun a HF => ?_
 refine qb rfl ?_
 rcases HF.tf 13 rfl with ⟨hb13, HF⟩ | ⟨hb13, HF⟩
 ·
  have hd13 := bne_iff_ne.1 hb13
  refine qe HF rfl (wp_seq (qa ?_))
  refine fp HF 2 0 [(4, vI er)] fun a HF => ?_
  refine qb rfl (wp_ret ?_)
  exact ret1 rfl HF (.tmp HF rfl) (qjr (qmr hws (by omega)) rfl hc (HW.call HM.below))
 have hd13 := bne_eq_false_iff_eq.1 hb13
 refine qd HF rfl (wp_skip (wp_seq (wp_seq (qa ?_))))
 refine fp HF 1 0 [(15, vP g 0)] fun a HF => ?_
 refine fy HF HM 1 rfl rfl rfl (v := vP g 0) (Yl.nilCheck rfl rfl) fun a HF => ?_
 refine fp HF 1 2 [(17, vP g 1)] fun a HF => ?_
 refine fy HF HM 3 rfl rfl rfl (v := .slice A out.length c) (Yl.qh rfl rfl (by kernel_rfl) (fun _ h => h.zk hg rfl)) fun a HF => ?_
 refine fy HF HM 4 rfl rfl rfl (Yl.len rfl rfl (by kernel_rfl)) fun a HF => ?_
 refine fp HF 1 5 [(20, .slice A9 R.length c9)] fun a HF => ?_
 refine fy HF HM 6 rfl rfl rfl (Yl.len rfl rfl (by kernel_rfl)) fun a HF => ?_
 refine fp HF 1 7 [(22, vI (IntKind.i64.wrap ((out.length : Int) + (R.length : Int))))] fun a HF => ?_
 replace HF := HF.sp 22 (vI (out.length + R.length : Nat)) rfl (qo (by omega) (by omega))
 refine fp HF 1 8 [(23, .bool (decide (((out.length + R.length : Nat) : Int) > (524288 : Int))))] fun a HF => ?_
 refine qb rfl ?_
 rcases HF.tf 23 rfl with ⟨hb23, HF⟩ | ⟨hb23, HF⟩
 ·
  have hd23 := of_decide_eq_true hb23
  refine qe HF rfl (wp_seq (qa ?_))
  refine fp HF 1 0 [(4, vI 3)] fun a HF => ?_
  refine qb rfl (wp_ret ?_)
  exact ret1 rfl HF (.tmp HF rfl) (qjr (qlf hws (by omega) (by omega)) rfl hc (HW.call HM.below))
 have hd23 := of_decide_eq_false hb23
 replace HM : Mem W _ (.row (.slice A9 R.length c9) R.length (R.map B8) 5 1 :: .blk g #[vI lim, .slice A out.length c] 95 :: .row (.slice A out.length c) out.length (out.map B8) 5 1 :: fs) := HW.join HM
 refine qd HF rfl (wp_skip (wp_seq (qa ?_)))
 refine fp HF 2 0 [(25, vP g 0), (24, vP g 0)] fun a HF => ?_
 refine fy HF HM 2 rfl rfl rfl (v := vP g 0) (Yl.nilCheck rfl rfl) fun a HF => ?_
 refine fp HF 1 3 [(27, vP g 1)] fun a HF => ?_
 refine fy HF HM 4 rfl rfl rfl (Yl.qh rfl rfl (by kernel_rfl) (fun _ h => h.cell (i := 1) rfl rfl)) fun a HF => ?_
 refine fp HF 1 5 [(29, .slice A9 R.length c9)] fun a HF => ?_
 refine fo HF 6 rfl rfl ?_
 refine qz HF HM (i := 2) rfl ei_u8 rfl rfl rfl (news := (R.map B8)) (HM.rd (i := 0) rfl) (qbp _) (by omega) (by omega) rfl (by decide) ?_
 clear HF HM; intro a w30 A30 c30 HF HM hc30
 rw [show (out.map B8) ++ (R.map B8) = (out ++ R).map B8 from by rw [List.map_append]] at HM
 refine fy HF HM 7 rfl rfl rfl (v := vP g 0) (Yl.nilCheck rfl rfl) fun a HF => ?_
 refine fp HF 1 8 [(32, vP g 1)] fun a HF => ?_
 refine fo HF 9 rfl rfl ?_
 refine zb HF HM (i := 1) (cs := #[vI lim, .slice A out.length c]) rfl rfl rfl rfl (by kernel_rfl) rfl rfl (by simp) ?_
 clear HM; intro w6_9 HM
 refine qb rfl ?_
 have hnA30 : out.length + R.length = (out ++ R).length := by rw [List.length_append]
 replace HM := HM.reRow (i := 2) (ys := (out ++ R).map B8) rfl hnA30 (rfl)
 rw [hnA30] at hc30
 replace HF := HF.as (t := 30) (u := .slice A30 ((out ++ R).length) c30) rfl (by rw [hnA30])
 replace HM := HM.reBlk (i := 1) (ds := #[.int .i64 lim, .slice A30 (out ++ R).length c30]) rfl (by rw [hnA30]; rfl)
 refine wp_seq (qa ?_)
 refine fp HF 1 0 [(4, vI 0)] fun a HF => ?_
 refine qb rfl (wp_ret ?_)
 exact ret1 rfl HF (.tmp HF rfl) (qjr (qo3 hws (by omega) (by omega)) rfl hc30 (HM.picksT 3 [1, 2] (by decide) (by decide) rfl))
theorem qmt (W w : World) (g : Nat) (lim : Int) (A : Option Addr) (c : Nat) (out : List Nat) (fs : List Fact) (HW : Mem W w (.blk g #[.int .i64 lim, .slice A out.length c] 95 :: .row (.slice A out.length c) out.length (out.map B8) 5 1 :: fs)) (hc : out.length ≤ c) (hout : out.length ≤ 524288) (A2 : Option Addr) (c2 : Nat) (q : List Hb) (B : Nat) (hL : LaidX B w) (hBW : B ≤ W.heap.size) (hr : Rd w w.heap.size 5 A2 q.length (q.flatMap hbL)) (hQ : HbRd w q) (hok : ∀ h ∈ q, h.b.Ok) (hev : ∀ h ∈ q, h.b.evs.length ≤ 1000000) (hn : q.length ≤ 1000000) {o2 : List Nat} {we : Nat} (h : qbb out (q.map Hb.b) = (o2, we)) :
  Calls Tryd.prog 40 #[.pointer (some ⟨g, 0, none⟩), .slice A2 q.length c2] w (WrIs W 95 g lim o2 fs (.int .i64 (we : Int))) := by
 have h1 := qli W w g lim A c out fs HW hc hout A2 c2 q B hL hBW hr hQ hok hev hn
 rw [h] at h1
 exact h1
theorem qfe (cpu : Nat) (hcpu : cpu < 256) (A : Option Addr) (n c : Nat) (l : List It) (opn limit : Int) (hok : ∀ x ∈ l, x.Ok) (ho : I64 opn) (hlm : I64 limit) (B : Nat) (w : World) (hL : LaidX B w) (hB : B ≤ w.heap.size) (hr : Rd w w.heap.size 12 A n (l.flatMap itL)) (hc : n ≤ c) (hln : l.length = n) (hn : n ≤ 1000000) {bs : List Bk} {ce : Nat} (h : cutS cpu l opn limit = (bs, ce)) :
  Calls Tryd.prog 12 #[.int .u8 (cpu : Int), .slice A n c, .int .i64 opn, .int .i64 limit] w (qg4 45 41 w ce bs) := by
 have h1 := qr0 cpu hcpu A n c l opn limit hok ho hlm B w hL hB hr hc hln hn
 rw [h] at h1
 exact h1
theorem qr9 (W w : World) (g : Nat) (lim : Int) (A : Option Addr) (c : Nat) (out : List Nat) (fs : List Fact) (HW : Mem W w (.blk g #[.int .i64 lim, .slice A out.length c] 95 :: .row (.slice A out.length c) out.length (out.map B8) 5 1 :: fs)) (hc : out.length ≤ c) (hout : out.length ≤ 524288) (hlim : lim ≠ 0) (next : Int) (hnx : I64 next) (B : Nat) (hL : LaidX B w) (hBW : B ≤ W.heap.size) :
    Calls Tryd.prog 15 #[.pointer (some ⟨g, 0, none⟩), .int .i64 next] w (WrIs W 95 g lim (qbb out [endB next]).1 fs (.int .i64 ((qbb out [endB next]).2 : Int))) := by
 have hg := HW.blk (i := 0) rfl
 have hB := Nat.le_trans hBW HW.size
 have hrA := HW.rd (i := 1) rfl
 refine qg (vs := [vP g 0, vI next]) Tryd.func15 rfl rfl (by kernel_rfl) (σ0 := [(0, vP g 0), (1, vI next)]) rfl ?_
 intro a HF
 have HM := Mem.start w
 refine wp_seq (qa ?_)
 refine fp HF 1 0 [(4, vI 0)] fun a HF => ?_
 refine qb rfl (wp_seq (wp_seq (qa ?_)))
 refine fp HF 1 0 [(5, vP g 0)] fun a HF => ?_
 refine fo HF 1 rfl rfl ?_
 refine e_is HF HM [vP g 0] (.bool false) rfl rfl (qhn g lim A out.length c _ (HM.oldBlk hg) hlim) fun w6 hbw HM a HF => ?_
 refine qb rfl ?_
 replace HM : Mem W _ (.blk g #[vI lim, .slice A out.length c] 95 :: .row (.slice A out.length c) out.length (out.map B8) 5 1 :: fs) := HW.join HM
 obtain ⟨o2, we, hww⟩ : ∃ o2 we, qbb out [endB next] = (o2, we) := ⟨_, _, rfl⟩
 refine qd HF rfl (wp_skip (wp_seq (qa ?_)))
 refine fp HF 2 0 [(8, vI next), (7, vP g 0)] fun a HF => ?_
 refine fy HF HM 2 rfl rfl rfl (v := .agg #[vB 2, vB 0, vI 0, vI next, .slice none 0 0]) (Yl.build (vs := [(0, vB 2), (3, vI next)]) rfl (by kernel_rfl) (by kernel_rfl)) fun a HF => ?_
 refine fo HF 3 rfl rfl ?_
 refine zp HF HM (vs := [(0, .agg #[vB 2, vB 0, vI 0, vI next, .slice none 0 0])]) (cs := #[vB 2, vB 0, vI 0, vI next, .slice none 0 0]) rfl qnh (by decide) rfl (by kernel_rfl) rfl (by decide) ?_
 clear HF HM; intro a w10 g10 HF HM
 refine fo HF 4 rfl rfl ?_
 refine e_cl HF [vP g 0, vS g10 1 1] rfl rfl (qmt W _ g lim A c out _ (HM.picksT 3 [1, 2, 0] (by decide) (by decide) rfl) hc hout _ 1 [⟨endB next, none, 0⟩] B (hL.mem2 HW HM hBW) hBW (HM.rdBlk (i := 0) (n := 1) (size := 5) rfl rfl) (by intro x hx; rw [List.mem_singleton] at hx; subst hx; exact Rd.nil) (by intro x hx; rw [List.mem_singleton] at hx; subst hx; exact qvf hnx) (by intro x hx; rw [List.mem_singleton] at hx; subst hx; exact Nat.zero_le _) (by show 1 ≤ 1000000; decide) hww) ?_
 rintro _ w11 ⟨rfl, A11, c11, hc11, HM2⟩
 refine ⟨_, rfl, ?_⟩
 replace HM := HM2
 clear HF; intro a HF
 refine fp HF 1 5 [(4, vI we)] fun a HF => ?_
 refine qb rfl (wp_ret ?_)
 exact ret1 rfl HF (.tmp HF rfl) (qjr hww rfl hc11 (HM.picksT 3 [0, 1] (by decide) (by decide) rfl))
theorem qho (g : Nat) (lim : Int) (A : Option Addr) (c : Nat) (out : List Nat) (w : World) (hg : w.heap[g]? = some (.cells #[.int .i64 lim, .slice A out.length c] 95 (0, 0))) (hrA : Rd w w.heap.size 1 A out.length (out.map B8)) (hout : out.length ≤ 524288) (hlim : lim ≠ 0) :
    Calls Tryd.prog 16 #[.pointer (some ⟨g, 0, none⟩)] w (zz w out) := by
 refine qg (vs := [vP g 0]) Tryd.func16 rfl rfl (by kernel_rfl) (σ0 := [(0, vP g 0)]) rfl ?_
 intro a HF
 have HM := Mem.start w
 refine wp_seq (qa ?_)
 refine fp HF 1 0 [(2, .slice none 0 0)] fun a HF => ?_
 refine qb rfl (wp_seq (wp_seq (qa ?_)))
 refine fp HF 1 0 [(3, vP g 0)] fun a HF => ?_
 refine fo HF 1 rfl rfl ?_
 refine e_is HF HM [vP g 0] (.bool false) rfl rfl (qhn g lim A out.length c _ (HM.oldBlk hg) hlim) fun w4 hbw HM a HF => ?_
 refine qb rfl (qd HF rfl (wp_skip (wp_seq (qa ?_))))
 refine fp HF 1 0 [(5, vP g 0)] fun a HF => ?_
 refine fy HF HM 1 rfl rfl rfl (v := vP g 0) (Yl.nilCheck rfl rfl) fun a HF => ?_
 refine fp HF 1 2 [(7, vP g 1)] fun a HF => ?_
 refine fy HF HM 3 rfl rfl rfl (v := .slice A out.length c) (Yl.qh rfl rfl (by kernel_rfl) (fun _ h => h.zk hg rfl)) fun a HF => ?_
 refine fo HF 4 rfl rfl ?_
 refine e_cl HF [.slice A out.length c] rfl rfl (qlh A c out _ (HM.old hrA) (by omega)) ?_
 rintro _ w9 ⟨⟨A9, c9, rfl, ho, hc9⟩, hbw⟩
 refine ⟨_, rfl, ?_⟩
 replace HM := HM.callRow hbw ho
 clear HF; intro a HF
 refine fp HF 1 5 [(2, .slice A9 out.length c9)] fun a HF => ?_
 refine qb rfl (wp_ret ?_)
 exact ret1 rfl HF (.tmp HF rfl) (⟨⟨_, _, rfl, HM.own (i := 0) rfl, hc9⟩, HM.below⟩)
theorem qsa (g : Nat) (lim : Int) (A : Option Addr) (c : Nat) (out : List Nat) (w : World) (hg : w.heap[g]? = some (.cells #[.int .i64 lim, .slice A out.length c] 95 (0, 0))) (hlim : lim ≠ 0) :
    Calls Tryd.prog 18 #[.pointer (some ⟨g, 0, none⟩)] w (Is w (.int .i64 (out.length : Int))) := by
 refine qg (vs := [vP g 0]) Tryd.func18 rfl rfl (by kernel_rfl) (σ0 := [(0, vP g 0)]) rfl ?_
 intro a HF
 have HM := Mem.start w
 refine wp_seq (qa ?_)
 refine fp HF 1 0 [(2, vI 0)] fun a HF => ?_
 refine qb rfl (wp_seq (wp_seq (qa ?_)))
 refine fp HF 1 0 [(3, vP g 0)] fun a HF => ?_
 refine fo HF 1 rfl rfl ?_
 refine e_is HF HM [vP g 0] (.bool false) rfl rfl (qhn g lim A out.length c _ (HM.oldBlk hg) hlim) fun w4 hbw HM a HF => ?_
 refine qb rfl (qd HF rfl (wp_skip (wp_seq (qa ?_))))
 refine fp HF 1 0 [(5, vP g 0)] fun a HF => ?_
 refine fy HF HM 1 rfl rfl rfl (v := vP g 0) (Yl.nilCheck rfl rfl) fun a HF => ?_
 refine fp HF 1 2 [(7, vP g 1)] fun a HF => ?_
 refine fy HF HM 3 rfl rfl rfl (v := .slice A out.length c) (Yl.qh rfl rfl (by kernel_rfl) (fun _ h => h.zk hg rfl)) fun a HF => ?_
 refine fy HF HM 4 rfl rfl rfl (Yl.len rfl rfl (by kernel_rfl)) fun a HF => ?_
 refine fp HF 1 5 [(2, vI out.length)] fun a HF => ?_
 refine qb rfl (wp_ret ?_)
 exact ret1 rfl HF (.tmp HF rfl) (⟨rfl, HM.below⟩)
def qwl (w : World) (l : List Nat) (r : Ending) (w' : World) : Prop := ∃ g A c, r = .returned (.pointer (some ⟨g, 0, none⟩)) ∧ l.length ≤ c ∧ Mem w w' [.blk g #[.bool true, .int .i64 0, .slice A l.length c] 108, .row (.slice A l.length c) l.length (l.map B8) 5 1]
theorem Mem.skip {W w : World} {f : Fact} {fs : List Fact} (h : Mem W w (f :: fs)) : Mem W w fs := h.tail
theorem qo7 (A : Option Addr) (c : Nat) (l : List Nat) (w : World) (hr : Rd w w.heap.size 1 A l.length (l.map B8)) (hn : l.length ≤ 100000000) :
    Calls Tryd.prog 25 #[.slice A l.length c] w (qwl w l) := by
 refine qg (vs := [.slice A l.length c]) Tryd.func25 rfl rfl (by kernel_rfl) (σ0 := [(0, .slice A l.length c)]) rfl ?_
 intro a HF
 have HM := Mem.start w
 refine wp_seq (qa ?_)
 refine fp HF 1 0 [(2, .pointer none)] fun a HF => ?_
 refine qb rfl (wp_seq (qa ?_))
 refine fp HF 1 0 [(3, .slice A l.length c)] fun a HF => ?_
 refine fo HF 1 rfl rfl ?_
 refine e_cl HF [.slice A l.length c] rfl rfl (qlh A c l _ (HM.old hr) hn) ?_
 rintro _ w4 ⟨⟨A4, c4, rfl, ho, hc4⟩, hbw⟩
 refine ⟨_, rfl, ?_⟩
 replace HM := HM.callRow hbw ho
 clear HF; intro a HF
 refine fy HF HM 2 rfl rfl rfl (v := .agg #[.bool true, vI 0, .slice A4 l.length c4]) (Yl.build (vs := [(0, .bool true), (2, .slice A4 l.length c4)]) rfl (by kernel_rfl) (by kernel_rfl)) fun a HF => ?_
 refine fo HF 3 rfl rfl ?_
 refine e_box HF HM (cs := #[.bool true, vI 0, .slice A4 l.length c4]) rfl rfl rfl rfl (by decide) ?_
 clear HF HM; intro a w6 g6 HF HM
 refine fp HF 1 4 [(2, vP g6 0)] fun a HF => ?_
 refine qb rfl (wp_ret ?_)
 exact ret1 rfl HF (.tmp HF rfl) (⟨g6, A4, c4, rfl, hc4, HM⟩)
theorem qlj (g p : Nat) (A : Option Addr) (c : Nat) (l : List Nat) (w : World) (hg : w.heap[g]? = some (.cells #[.bool true, .int .i64 (p : Int), .slice A l.length c] 108 (0, 0))) :
    Calls Tryd.prog 27 #[.pointer (some ⟨g, 0, none⟩)] w (Is w (.int .i64 (p : Int))) := by
 refine qg (vs := [vP g 0]) Tryd.func27 rfl rfl (by kernel_rfl) (σ0 := [(0, vP g 0)]) rfl ?_
 intro a HF
 have HM := Mem.start w
 refine wp_seq (qa ?_)
 refine fp HF 1 0 [(2, vI 0)] fun a HF => ?_
 refine qb rfl (wp_seq (wp_seq (qa ?_)))
 refine fp HF 1 0 [(3, vP g 0)] fun a HF => ?_
 refine fy HF HM 1 rfl rfl rfl (v := .bool false) (Yl.qnv rfl rfl rfl) fun a HF => ?_
 refine qb rfl (qd HF rfl (wp_skip (wp_seq (qa ?_))))
 refine fp HF 1 0 [(5, vP g 0)] fun a HF => ?_
 refine fy HF HM 1 rfl rfl rfl (v := vP g 0) (Yl.nilCheck rfl rfl) fun a HF => ?_
 refine fp HF 1 2 [(7, vP g 1)] fun a HF => ?_
 refine fy HF HM 3 rfl rfl rfl (v := vI p) (Yl.qh rfl rfl (by kernel_rfl) (fun _ h => h.zk hg rfl)) fun a HF => ?_
 refine fp HF 1 4 [(2, vI p)] fun a HF => ?_
 refine qb rfl (wp_ret ?_)
 exact ret1 rfl HF (.tmp HF rfl) (⟨rfl, HM.below⟩)
theorem qo8 (W w : World) (g p : Nat) (A : Option Addr) (c : Nat) (l : List Nat) (fs : List Fact) (HW : Mem W w (.blk g #[.bool true, .int .i64 (p : Int), .slice A l.length c] 108 :: .row (.slice A l.length c) l.length (l.map B8) 5 1 :: fs)) (hp : p ≤ l.length) (hc : l.length ≤ c) (hl : ∀ b ∈ l, b < 256) (hn : l.length ≤ 100000000) (B : Nat) (hL : LaidX B w) (hBW : B ≤ W.heap.size) :
    Calls Tryd.prog 26 #[.pointer (some ⟨g, 0, none⟩)] w (quh W 108 g p l A c fs (nextR l p)) := by
 have hg := HW.blk (i := 0) rfl
 have hrA := HW.rd (i := 1) rfl
 have hB := Nat.le_trans hBW HW.size
 refine qg (vs := [vP g 0]) Tryd.func26 rfl rfl (by kernel_rfl) (σ0 := [(0, vP g 0)]) rfl ?_
 intro a HF
 have HM := Mem.start w
 refine wp_seq (qa ?_)
 refine fo HF 0 rfl rfl ?_
 refine qq HF HM (cs := #[vB 0, vB 0, vI 0, vI 0, .slice none 0 0]) rfl (by kernel_rfl) rfl (by decide) ?_
 clear HF HM; intro a w2 g2 HF HM
 refine fp HF 1 1 [(3, vI 0)] fun a HF => ?_
 refine qb rfl (wp_seq (wp_seq (qa ?_)))
 refine fp HF 1 0 [(7, vP g 0)] fun a HF => ?_
 refine fy HF HM 1 rfl rfl rfl (v := .bool false) (Yl.qnv rfl rfl rfl) fun a HF => ?_
 refine fp HF 2 2 [(10, vP g 0), (9, .bool false)] fun a HF => ?_
 refine fy HF HM 4 rfl rfl rfl (v := vP g 0) (Yl.nilCheck rfl rfl) fun a HF => ?_
 refine fp HF 1 5 [(12, vP g 0)] fun a HF => ?_
 refine fy HF HM 6 rfl rfl rfl (v := .bool true) (Yl.qh rfl rfl (by kernel_rfl) (fun _ h => h.zk hg rfl)) fun a HF => ?_
 refine fp HF 2 7 [(15, .bool false)] fun a HF => ?_
 refine qb rfl (qd HF rfl (wp_skip (wp_seq (wp_seq ?_))))
 refine qac HM [.blk g2 #[vB 0, vB 0, vI 0, vI 0, .slice none 0 0] 41] [0] [] fun HM HS => ?_
 refine ap HF (fun _ => HS) [0, 4] #[true, false, false, false, true, false, false, false, false, false] [(21, vP g 0), (17, vP g 0)] fun a HF => ?_
 refine ay HF HS 1 rfl rfl rfl (v := vP g 0) (Yl.nilCheck rfl rfl) fun a HF => ?_
 refine ap HF (fun _ => HS) [2] #[true, true, true, false, true, false, false, false, false, false] [(19, vP g 1)] fun a HF => ?_
 refine ay HF HS 3 rfl rfl rfl (v := vI p) (Yl.qh rfl rfl (by kernel_rfl) (fun _ h => h.zk hg rfl)) fun a HF => ?_
 refine ay HF HS 5 rfl rfl rfl (v := vP g 0) (Yl.nilCheck rfl rfl) fun a HF => ?_
 refine ap HF (fun _ => HS) [6] #[true, true, true, true, true, true, true, false, false, false] [(23, vP g 2)] fun a HF => ?_
 refine ay HF HS 7 rfl rfl rfl (v := .slice A l.length c) (Yl.qh rfl rfl (by kernel_rfl) (fun _ h => h.zk hg rfl)) fun a HF => ?_
 refine ay HF HS 8 rfl rfl rfl (Yl.len rfl rfl (by kernel_rfl)) fun a HF => ?_
 refine ap HF (fun _ => HS) [9] #[true, true, true, true, true, true, true, true, true, true] [(26, .bool ((p : Int) == (l.length : Int)))] fun a HF => ?_
 refine ql (by kernel_rfl) ?_
 rcases HF.tf 26 rfl with ⟨hb26, HF⟩ | ⟨hb26, HF⟩
 ·
  have hd26 := eq_of_beq hb26
  have hpl : p = l.length := by omega
  have hz : nextR l p = (Bk.zero, 0, 6) := if_pos hpl
  refine qe HF rfl (wp_seq (qa ?_))
  refine fy HF HM 0 rfl rfl rfl (v := .agg #[vB 0, vB 0, vI 0, vI 0, .slice none 0 0]) (Yl.build (vs := []) rfl (by kernel_rfl) (by kernel_rfl)) fun a HF => ?_
  refine fo HF 1 rfl rfl ?_
  refine e_sa HF HM 0 rfl rfl rfl rfl rfl si_bk rfl rfl (by simp [Value.oneCell']) ?_
  clear HM; intro w4_1 HM
  refine fp HF 1 2 [(3, vI 6)] fun a HF => ?_
  refine qb rfl (wp_ret ?_)
  exact ret2 rfl HF (.cellS (i := 0) HF HM rfl rfl si_bk rfl) (.tmp HF rfl) (by have HM := HW.join HM; exact qlg (b := Bk.zero) (A' := none) (c' := 0) hz rfl (Nat.le_refl _) (Mem.nil (Mem.skip HM) _ _))
 have hd26 := ne_of_beq_false hb26
 have hpl : p ≠ l.length := by omega
 obtain ⟨b, m, er, hq⟩ : ∃ b m er, readB (l.drop p) = (b, m, er) := ⟨_, _, _, rfl⟩
 have hz : nextR l p = (b, m, er) := (if_neg hpl).trans hq
 have hpm := qr6 hl hp hz
 refine qd HF rfl (wp_skip ?_)
 refine qaq (fun aS wS => ∃ (A38 : Option Addr) (c38 : Nat) (g4 : Nat), Fr aS 52 [] [(6, vI er), (5, vI m), (4, vP g4 0), (26, .bool false), (15, .bool false), (3, vI 0), (2, vP g2 0), (0, vP g 0)] ∧ Mem w wS [.blk g4 (b.cells A38 c38) 41, .row (.slice A38 b.evs.length c38) b.evs.length (b.evs.flatMap evL) 45 11, .blk g2 #[vB 0, vB 0, vI 0, vI 0, .slice none 0 0] 41] ∧ (b.evs.length ≤ c38)) ?_ ?_
 ·
  refine qac HM [.blk g2 #[vB 0, vB 0, vI 0, vI 0, .slice none 0 0] 41] [0] [15] fun HM HS => ?_
  refine ap HF (fun _ => HS) [0, 4] #[true, false, false, false, true, false, false, false, false, false, false, false, false, false, false, false, false, false] [(33, vP g 0), (29, vP g 0)] fun a HF => ?_
  refine ay HF HS 1 rfl rfl rfl (v := vP g 0) (Yl.nilCheck rfl rfl) fun a HF => ?_
  refine ap HF (fun _ => HS) [2] #[true, true, true, false, true, false, false, false, false, false, false, false, false, false, false, false, false, false] [(31, vP g 2)] fun a HF => ?_
  refine ay HF HS 3 rfl rfl rfl (v := .slice A l.length c) (Yl.qh rfl rfl (by kernel_rfl) (fun _ h => h.zk hg rfl)) fun a HF => ?_
  refine ay HF HS 5 rfl rfl rfl (v := vP g 0) (Yl.nilCheck rfl rfl) fun a HF => ?_
  refine ap HF (fun _ => HS) [6] #[true, true, true, true, true, true, true, false, false, false, false, false, false, false, false, false, false, false] [(35, vP g 1)] fun a HF => ?_
  refine ay HF HS 7 rfl rfl rfl (v := vI p) (Yl.qh rfl rfl (by kernel_rfl) (fun _ h => h.zk hg rfl)) fun a HF => ?_
  refine ay HF HS 8 rfl rfl rfl (v := .slice (if c = p then A else A.map (·.add (p * 1))) (l.length - p) (c - p)) (Yl.sliceFrom ei_u8 (j := p) rfl rfl rfl (by omega)) fun a HF => ?_
  refine qj [9, 14] (by kernel_rfl) rfl ?_
  refine all_cons ?_ ?_
  ·refine qn HF (i := 9) rfl rfl ?_
   refine e_cl HF [.slice (if c = p then A else A.map (·.add (p * 1))) (l.length - p) (c - p)] rfl rfl (qjk (if c = p then A else A.map (·.add (p * 1))) (l.length - p) (c - p) (l.drop p) B _ (hL.mem HM hB) (HM.le hB) (HM.old (hrA.qnt hp hc)) (by omega) (by rw [List.length_drop]) (by omega) (qa7 hl p) hq) ?_
   rintro _ w38 ⟨⟨A38, c38, rfl, ho, hc38⟩, hbw⟩
   refine ⟨_, rfl, ?_⟩
   replace HM := HM.callRow hbw ho
   clear HF; intro a HF
   refine keepS (HM.picks [1] (by decide) rfl) (fun HS => ?_)
   refine ap HF (fun _ => HS) [10, 11, 12, 13] #[true, true, true, true, true, true, true, true, true, true, true, true, true, true, false, false, false, false] [(41, vI er), (40, vI m), (39, .agg (b.cells A38 c38))] fun a HF => ?_
   refine qj [14] (by kernel_rfl) rfl ?_
   refine all_cons ?_ all_nil
   refine qn HF (i := 14) rfl rfl ?_
   refine qq HF HM (cs := #[vB 0, vB 0, vI 0, vI 0, .slice none 0 0]) rfl (by kernel_rfl) rfl (by decide) ?_
   clear HF HM; intro a w4 g4 HF HM
   refine keepS (HM.picks [2] (by decide) rfl) (fun HS => ?_)
   refine qj [15] (by kernel_rfl) rfl ?_
   refine all_cons ?_ all_nil
   refine qn HF (i := 15) rfl rfl ?_
   refine e_sa HF HM 0 rfl rfl rfl rfl rfl si_bk rfl rfl (qbv _ _ _) ?_
   clear HM; intro w5_15 HM
   refine noS (by kernel_rfl) ?_
   refine ap HF (pastS (by kernel_rfl)) [16, 17] #[true, true, true, true, true, true, true, true, true, true, true, true, true, true, true, true, true, true] [(6, vI er), (5, vI m)] fun a HF => ?_
   refine ql (by kernel_rfl) ?_
   exact ⟨A38, c38, g4, HF.sub (by kernel_rfl), HM.picks [0, 1, 2] (by decide) rfl, hc38⟩
  refine all_cons ?_ all_nil
  refine qn HF (i := 14) rfl rfl ?_
  refine qq HF HM (cs := #[vB 0, vB 0, vI 0, vI 0, .slice none 0 0]) rfl (by kernel_rfl) rfl (by decide) ?_
  clear HF HM; intro a w4 g4 HF HM
  refine keepS (HM.picks [1] (by decide) rfl) (fun HS => ?_)
  refine qj [9] (by kernel_rfl) rfl ?_
  refine all_cons ?_ all_nil
  refine qn HF (i := 9) rfl rfl ?_
  refine e_cl HF [.slice (if c = p then A else A.map (·.add (p * 1))) (l.length - p) (c - p)] rfl rfl (qjk (if c = p then A else A.map (·.add (p * 1))) (l.length - p) (c - p) (l.drop p) B _ (hL.mem HM hB) (HM.le hB) (HM.old (hrA.qnt hp hc)) (by omega) (by rw [List.length_drop]) (by omega) (qa7 hl p) hq) ?_
  rintro _ w38 ⟨⟨A38, c38, rfl, ho, hc38⟩, hbw⟩
  refine ⟨_, rfl, ?_⟩
  replace HM := HM.callRow hbw ho
  clear HF; intro a HF
  refine keepS (HM.picks [2] (by decide) rfl) (fun HS => ?_)
  refine ap HF (fun _ => HS) [10, 11, 12, 13] #[true, true, true, true, true, true, true, true, true, true, true, true, true, true, true, false, false, false] [(41, vI er), (40, vI m), (39, .agg (b.cells A38 c38))] fun a HF => ?_
  refine qj [15] (by kernel_rfl) rfl ?_
  refine all_cons ?_ all_nil
  refine qn HF (i := 15) rfl rfl ?_
  refine e_sa HF HM 1 rfl rfl rfl rfl rfl si_bk rfl rfl (qbv _ _ _) ?_
  clear HM; intro w5_15 HM
  refine noS (by kernel_rfl) ?_
  refine ap HF (pastS (by kernel_rfl)) [16, 17] #[true, true, true, true, true, true, true, true, true, true, true, true, true, true, true, true, true, true] [(6, vI er), (5, vI m)] fun a HF => ?_
  refine ql (by kernel_rfl) ?_
  exact ⟨A38, c38, g4, HF.sub (by kernel_rfl), HM.picks [1, 0, 2] (by decide) rfl, hc38⟩
 clear HF HM; rintro a w5 ⟨A38, c38, g4, HF, HM, hc38⟩
 skip
 ·
  replace HM : Mem W _ (.blk g4 (b.cells A38 c38) 41 :: .row (.slice A38 b.evs.length c38) b.evs.length (b.evs.flatMap evL) 45 11 :: .blk g2 #[vB 0, vB 0, vI 0, vI 0, .slice none 0 0] 41 :: .blk g #[.bool true, vI p, .slice A l.length c] 108 :: .row (.slice A l.length c) l.length (l.map B8) 5 1 :: fs) := HW.join HM
  refine wp_seq (qa ?_)
  refine fp HF 1 0 [(42, vP g 0)] fun a HF => ?_
  refine fy HF HM 1 rfl rfl rfl (v := vP g 0) (Yl.nilCheck rfl rfl) fun a HF => ?_
  refine fp HF 1 2 [(44, vP g 1)] fun a HF => ?_
  refine fy HF HM 3 rfl rfl rfl (Yl.qh rfl rfl (by kernel_rfl) (fun _ h => h.cell (i := 3) rfl rfl)) fun a HF => ?_
  refine fp HF 2 4 [(47, vI (IntKind.i64.wrap ((p : Int) + (m : Int))))] fun a HF => ?_
  replace HF := HF.sp 47 (vI (p + m : Nat)) rfl (qo (by omega) (by omega))
  refine fy HF HM 6 rfl rfl rfl (v := vP g 0) (Yl.nilCheck rfl rfl) fun a HF => ?_
  refine fp HF 1 7 [(49, vP g 1)] fun a HF => ?_
  refine fo HF 8 rfl rfl ?_
  refine zb HF HM (i := 3) (cs := #[.bool true, vI p, .slice A l.length c]) rfl rfl rfl rfl (by kernel_rfl) rfl rfl (by simp) ?_
  clear HM; intro w6_8 HM
  refine qb rfl (wp_seq (qa ?_))
  refine fy HF HM 0 rfl rfl rfl (v := .agg (b.cells A38 c38)) (Yl.zl rfl rfl si_bk rfl (fun _ h => qf (h.blk (i := 0) rfl))) fun a HF => ?_
  refine fp HF 1 1 [(51, vI er)] fun a HF => ?_
  refine fo HF 2 rfl rfl ?_
  refine e_sa HF HM 2 rfl rfl rfl rfl rfl si_bk rfl rfl (qbv _ _ _) ?_
  clear HM; intro w7_2 HM
  refine fp HF 1 3 [(3, vI er)] fun a HF => ?_
  refine qb rfl (wp_ret ?_)
  exact ret2 rfl HF (.cellS (i := 2) HF HM rfl rfl si_bk rfl) (.tmp HF rfl) (qlg hz rfl hc38 (HM.picksT 5 [1, 3, 4] (by decide) (by decide) rfl))
theorem qtu (lim : Int) (w : World) (h : 1 ≤ lim ∧ lim ≤ 4096) : Calls Tryd.prog 14 #[.int .i64 lim] w fun r w' => ∃ g, r = .returned (.tuple #[.pointer (some ⟨g, 0, none⟩), .int .i64 0]) ∧ Mem w w' [.blk g #[.int .i64 lim, .slice none 0 0] 95] :=
 (qr8 lim (by unfold I64; omega) w).mono fun r w' h1 => by
  rcases h1 with ⟨h2, _⟩ | ⟨_, h2⟩
  ·omega
  ·exact h2
theorem qns (W w : World) (g : Nat) (lim : Int) (A : Option Addr) (c : Nat) (out : List Nat) (fs : List Fact) (HW : Mem W w (.blk g #[.int .i64 lim, .slice A out.length c] 95 :: .row (.slice A out.length c) out.length (out.map B8) 5 1 :: fs)) (hc : out.length ≤ c) (hout : out.length ≤ 524288) (hlim : lim ≠ 0) (next : Int) (hnx : I64 next) (B : Nat) (hL : LaidX B w) (hBW : B ≤ W.heap.size) {o2 : List Nat} {we : Nat} (h : qbb out [endB next] = (o2, we)) :
  Calls Tryd.prog 15 #[.pointer (some ⟨g, 0, none⟩), .int .i64 next] w (WrIs W 95 g lim o2 fs (.int .i64 (we : Int))) := by
 have h1 := qr9 W w g lim A c out fs HW hc hout hlim next hnx B hL hBW
 rw [h] at h1
 exact h1
theorem qtv (g : Nat) (lim : Int) (A : Option Addr) (c : Nat) (out : List Nat) (w : World) (hg : w.heap[g]? = some (.cells #[.int .i64 lim, .slice A out.length c] 95 (0, 0))) (hlim : lim ≠ 0) {n : Nat} (h : out.length = n) :
  Calls Tryd.prog 18 #[.pointer (some ⟨g, 0, none⟩)] w (Is w (.int .i64 (n : Int))) := by
 have h1 := qsa g lim A c out w hg hlim
 rw [h] at h1
 exact h1
theorem qlk (W w : World) (g p : Nat) (A : Option Addr) (c : Nat) (l : List Nat) (fs : List Fact) (HW : Mem W w (.blk g #[.bool true, .int .i64 (p : Int), .slice A l.length c] 108 :: .row (.slice A l.length c) l.length (l.map B8) 5 1 :: fs)) (hp : p ≤ l.length) (hc : l.length ≤ c) (hl : ∀ b ∈ l, b < 256) (hn : l.length ≤ 100000000) (B : Nat) (hL : LaidX B w) (hBW : B ≤ W.heap.size) {b : Bk} {m er : Nat} (h : nextR l p = (b, m, er)) {p2 : Nat} (h2 : p + m = p2 := by rfl) :
  Calls Tryd.prog 26 #[.pointer (some ⟨g, 0, none⟩)] w fun r w' => ∃ A' c', r = .returned (.tuple #[.agg (b.cells A' c'), .int .i64 (er : Int)]) ∧ b.evs.length ≤ c' ∧ Mem W w' (.row (.slice A' b.evs.length c') b.evs.length (b.evs.flatMap evL) 45 11 :: .blk g #[.bool true, .int .i64 ((p2 : Nat) : Int), .slice A l.length c] 108 :: .row (.slice A l.length c) l.length (l.map B8) 5 1 :: fs) := by
 have h1 := qo8 W w g p A c l fs HW hp hc hl hn B hL hBW
 subst h2
 rw [h] at h1
 exact h1
theorem qwm (A : Option Addr) (n c : Nat) (l : List Nat) (B : Nat) (w : World) (hL : LaidX B w) (hB : B ≤ w.heap.size) (hr : Rd w w.heap.size 1 A n (l.map B8)) (hc : n ≤ c) (hl : ∀ b ∈ l, b < 256) (hln : l.length = n) (hn : n ≤ 100000000) {bs : List Bk} {p er : Nat} (h : qgd l = (bs, p, er)) :
  Calls Tryd.prog 22 #[.slice A n c] w (Is w (.tuple #[.int .i64 (bs.length : Int), .int .i64 (p : Int), .int .i64 (er : Int)])) := by
 subst hln
 have h1 := qve A c l B w hL hB hr hc hl hn
 rw [h] at h1
 exact h1
theorem qff (w : World) : Calls Tryd.prog 32 #[] w fun r w' => ∃ g, r = .returned (.slice (some ⟨g, 0, none⟩) 2 2) ∧ w'.ownsRow w.heap.size 47 12 (.slice (some ⟨g, 0, none⟩) 2 2) 2 (exI.flatMap itL) ∧ Below w.heap.size w w' := by
 refine qg (vs := []) Tryd.func32 rfl rfl (by kernel_rfl) (σ0 := []) rfl ?_
 intro a HF
 have HM := Mem.start w
 refine wp_seq (qa ?_)
 refine fp HF 1 0 [(0, .slice none 0 0)] fun a HF => ?_
 refine qb rfl (wp_seq (qa ?_))
 refine fy HF HM 0 rfl rfl rfl (v := .agg #[vI 5, vI 340, vB 2, vB 5, vI 0, vI 0, vI 0, vI 0, vI 40, vQ 0, vI 7]) (Yl.build (vs := [(0, vI 5), (1, vI 340), (2, vB 2), (3, vB 5), (8, vI 40), (10, vI 7)]) rfl (by kernel_rfl) (by kernel_rfl)) fun a HF => ?_
 refine fy HF HM 1 rfl rfl rfl (v := .agg #[vI 5, vI 340, vB 2, vB 5, vI 0, vI 0, vI 0, vI 0, vI 40, vQ 0, vI 7, vI 3]) (Yl.build (vs := [(0, .agg #[vI 5, vI 340, vB 2, vB 5, vI 0, vI 0, vI 0, vI 0, vI 40, vQ 0, vI 7]), (1, vI 3)]) rfl (by kernel_rfl) (by kernel_rfl)) fun a HF => ?_
 refine fy HF HM 2 rfl rfl rfl (v := .agg #[vI 9, vI 340, vB 2, vB 6, vI 0, vI 0, vI 0, vI 0, vI 0, vQ 0, vI 0]) (Yl.build (vs := [(0, vI 9), (1, vI 340), (2, vB 2), (3, vB 6)]) rfl (by kernel_rfl) (by kernel_rfl)) fun a HF => ?_
 refine fy HF HM 3 rfl rfl rfl (v := .agg #[vI 9, vI 340, vB 2, vB 6, vI 0, vI 0, vI 0, vI 0, vI 0, vQ 0, vI 0, vI 0]) (Yl.build (vs := [(0, .agg #[vI 9, vI 340, vB 2, vB 6, vI 0, vI 0, vI 0, vI 0, vI 0, vQ 0, vI 0])]) rfl (by kernel_rfl) (by kernel_rfl)) fun a HF => ?_
 refine fo HF 4 rfl rfl ?_
 refine zp HF HM (vs := [(0, .agg #[vI 5, vI 340, vB 2, vB 5, vI 0, vI 0, vI 0, vI 0, vI 40, vQ 0, vI 7, vI 3]), (1, .agg #[vI 9, vI 340, vB 2, vB 6, vI 0, vI 0, vI 0, vI 0, vI 0, vQ 0, vI 0, vI 0])]) (cs := #[vI 5, vI 340, vB 2, vB 5, vI 0, vI 0, vI 0, vI 0, vI 40, vQ 0, vI 7, vI 3, vI 9, vI 340, vB 2, vB 6, vI 0, vI 0, vI 0, vI 0, vI 0, vQ 0, vI 0, vI 0]) rfl ei_it (by decide) rfl (by kernel_rfl) rfl (by decide) ?_
 clear HF HM; intro a w5 g5 HF HM
 refine fp HF 1 5 [(0, vS g5 2 2)] fun a HF => ?_
 refine qb rfl (wp_ret ?_)
 exact ret1 rfl HF (.tmp HF rfl) (⟨g5, rfl, (HM.blkRow (i := 0) (n := 2) (size := 12) rfl rfl (by decide)).own (i := 0) rfl, HM.below⟩)
theorem qiz (B : Nat) (w : World) (hL : LaidX B w) (hB : B ≤ w.heap.size) : Calls Tryd.prog 10 #[] w (Is w (.bool true)) := by
 refine qg (vs := []) Tryd.func10 rfl rfl (by kernel_rfl) (σ0 := []) rfl ?_
 intro a HF
 have HM := Mem.start w
 refine wp_seq (qa ?_)
 refine fp HF 1 0 [(0, .bool false)] fun a HF => ?_
 refine qb rfl (wp_seq (qa ?_))
 refine fo HF 0 rfl rfl ?_
 refine e_cl HF [] rfl rfl (qff _) ?_
 rintro _ w20 ⟨g20, rfl, ho, hbw⟩
 refine ⟨_, rfl, ?_⟩
 replace HM := HM.callRow hbw ho
 clear HF; intro a HF
 refine fo HF 1 rfl rfl ?_
 refine e_cl HF [vB 2, vS g20 2 2, vI 2, vI 1] rfl rfl (qfe 2 (by decide) (some ⟨g20, 0, none⟩) 2 2 exI 2 1 qui (by unfold I64; decide) (by unfold I64; decide) B _ (hL.mem HM hB) (HM.le hB) (HM.rd (i := 0) rfl) (by decide) rfl (by decide) sa1) ?_
 rintro _ w21 ⟨A21, c21, q21, rfl, hq21, hc21, hm⟩
 obtain ⟨x1, x2, rfl, hex1, hex2⟩ := map2 hq21
 refine ⟨_, rfl, ?_⟩
 replace HM := HM.callRow hm.below (hm.own (i := 0) rfl)
 clear HF; intro a HF
 refine fp HF 5 2 [(2, vI 0), (1, .slice A21 2 c21)] fun a HF => ?_
 refine qb rfl (wp_seq (qa ?_))
 refine fo HF 0 rfl rfl ?_
 refine e_cl HF [] rfl rfl (qff _) ?_
 rintro _ w25 ⟨g25, rfl, ho, hbw⟩
 refine ⟨_, rfl, ?_⟩
 replace HM := HM.callRow hbw ho
 clear HF; intro a HF
 refine fo HF 1 rfl rfl ?_
 refine e_cl HF [vB 2, vS g25 2 2, vI 2, vI 2] rfl rfl (qfe 2 (by decide) (some ⟨g25, 0, none⟩) 2 2 exI 2 2 qui (by unfold I64; decide) (by unfold I64; decide) B _ (hL.mem HM hB) (HM.le hB) (HM.rd (i := 0) rfl) (by decide) rfl (by decide) sa2) ?_
 rintro _ w26 ⟨A26, c26, q26, rfl, hq26, hc26, hm⟩
 obtain ⟨x3, rfl, hex3⟩ := map1 hq26
 refine ⟨_, rfl, ?_⟩
 replace HM := HM.callRow hm.below (hm.own (i := 0) rfl)
 clear HF; intro a HF
 refine fp HF 5 2 [(4, vI 0), (3, .slice A26 1 c26)] fun a HF => ?_
 refine qb rfl (wp_seq (qa ?_))
 refine fo HF 0 rfl rfl ?_
 refine e_cl HF [vB 2, .slice none 0 0, vI 0, vI 1] rfl rfl (qfe 2 (by decide) none 0 0 [] 0 1 (by intro x hx; cases hx) (by unfold I64; decide) (by unfold I64; decide) B _ (hL.mem HM hB) (HM.le hB) (Rd.nil) (by decide) rfl (by decide) sa3) ?_
 rintro _ w30 ⟨A30, c30, q30, rfl, hq30, hc30, hm⟩
 obtain rfl := List.map_eq_nil_iff.1 hq30
 refine ⟨_, rfl, ?_⟩
 replace HM := HM.callRow hm.below (hm.own (i := 0) rfl)
 clear HF; intro a HF
 refine fp HF 5 1 [(6, vI 0), (5, .slice A30 0 c30)] fun a HF => ?_
 refine qb rfl (wp_seq (qa ?_))
 refine fo HF 0 rfl rfl ?_
 refine e_cl HF [vB 2, .slice none 0 0, vI 2, vI 1] rfl rfl (qfe 2 (by decide) none 0 0 [] 2 1 (by intro x hx; cases hx) (by unfold I64; decide) (by unfold I64; decide) B _ (hL.mem HM hB) (HM.le hB) (Rd.nil) (by decide) rfl (by decide) sa4) ?_
 rintro _ w34 ⟨A34, c34, q34, rfl, hq34, hc34, hm⟩
 obtain ⟨x4, rfl, hex4⟩ := map1 hq34
 refine ⟨_, rfl, ?_⟩
 replace HM := HM.callRow hm.below (hm.own (i := 0) rfl)
 clear HF; intro a HF
 refine fp HF 5 1 [(8, vI 0), (7, .slice A34 1 c34)] fun a HF => ?_
 refine qb rfl (wp_seq (wp_seq (qa ?_)))
 refine fp HF 10 0 [(46, .slice A21 2 c21), (45, .bool false)] fun a HF => ?_
 refine fy HF HM 10 rfl rfl rfl (Yl.len rfl rfl (by kernel_rfl)) fun a HF => ?_
 refine fp HF 4 11 [(51, .slice A21 2 c21), (50, .bool false)] fun a HF => ?_
 obtain ⟨gA21, rfl⟩ := qbl (HM.own (i := 4) rfl) (Nat.lt_of_le_of_lt (Nat.zero_le _) (show 0 < 2 from by decide))
 refine fy HF HM 15 rfl rfl rfl (v := vP gA21 0) (Yl.indexAddr (ad := ⟨gA21, 0, none⟩) (y := 0) (sz := 5) rfl rfl rfl (by decide) (by kernel_rfl)) fun a HF => ?_
 refine fp HF 1 16 [(53, vP gA21 2)] fun a HF => ?_
 refine fy HF HM 17 rfl rfl rfl (v := vI x1.b.lost) (Yl.qh rfl rfl (by kernel_rfl) (fun _ h => h.qda qcl (i := 4) rfl (k := 0) (off := 2) (x := x1) (rfl) rfl)) fun a HF => ?_
 replace HF := HF.sp 54 (vI 3) rfl (by rw [hex1])
 refine fp HF 4 18 [(58, vS gA21 2 c21), (57, .bool false)] fun a HF => ?_
 refine fy HF HM 22 rfl rfl rfl (v := vP gA21 5) (Yl.indexAddr (ad := ⟨gA21, 0, none⟩) (y := 1) (sz := 5) rfl rfl rfl (by decide) (by kernel_rfl)) fun a HF => ?_
 refine fp HF 1 23 [(60, vP gA21 7)] fun a HF => ?_
 refine fy HF HM 24 rfl rfl rfl (v := vI x2.b.lost) (Yl.qh rfl rfl (by kernel_rfl) (fun _ h => h.qda qcl (i := 4) rfl (k := 1) (off := 2) (x := x2) (rfl) rfl)) fun a HF => ?_
 replace HF := HF.sp 61 (vI 2) rfl (by rw [hex2])
 refine fp HF 4 25 [(65, .slice A26 1 c26), (64, .bool false)] fun a HF => ?_
 refine fy HF HM 29 rfl rfl rfl (Yl.len rfl rfl (by kernel_rfl)) fun a HF => ?_
 refine fp HF 4 30 [(70, .slice A26 1 c26), (69, .bool false)] fun a HF => ?_
 obtain ⟨gA26, rfl⟩ := qbl (HM.own (i := 2) rfl) (Nat.lt_of_le_of_lt (Nat.zero_le _) (show 0 < 1 from by decide))
 refine fy HF HM 34 rfl rfl rfl (v := vP gA26 0) (Yl.indexAddr (ad := ⟨gA26, 0, none⟩) (y := 0) (sz := 5) rfl rfl rfl (by decide) (by kernel_rfl)) fun a HF => ?_
 refine fp HF 1 35 [(72, vP gA26 2)] fun a HF => ?_
 refine fy HF HM 36 rfl rfl rfl (v := vI x3.b.lost) (Yl.qh rfl rfl (by kernel_rfl) (fun _ h => h.qda qcl (i := 2) rfl (k := 0) (off := 2) (x := x3) (rfl) rfl)) fun a HF => ?_
 replace HF := HF.sp 73 (vI 5) rfl (by rw [hex3])
 refine fp HF 4 37 [(77, vS gA26 1 c26), (76, .bool false)] fun a HF => ?_
 refine fy HF HM 41 rfl rfl rfl (v := vP gA26 0) (Yl.indexAddr (ad := ⟨gA26, 0, none⟩) (y := 0) (sz := 5) rfl rfl rfl (by decide) (by kernel_rfl)) fun a HF => ?_
 refine fp HF 1 42 [(79, vP gA26 4)] fun a HF => ?_
 refine fy HF HM 43 rfl rfl rfl (v := .slice x3.A x3.b.evs.length x3.c) (Yl.qh rfl rfl (by kernel_rfl) (fun _ h => h.qda qcl (i := 2) rfl (k := 0) (off := 4) (x := x3) (rfl) rfl)) fun a HF => ?_
 replace HF := HF.sp 80 (.slice x3.A 2 x3.c) rfl (by rw [hex3]; rfl)
 refine fy HF HM 44 rfl rfl rfl (Yl.len rfl rfl (by kernel_rfl)) fun a HF => ?_
 refine fp HF 4 45 [(85, .slice A30 0 c30), (84, .bool false)] fun a HF => ?_
 refine fy HF HM 49 rfl rfl rfl (Yl.len rfl rfl (by kernel_rfl)) fun a HF => ?_
 refine fp HF 4 50 [(90, .slice A34 1 c34), (89, .bool false)] fun a HF => ?_
 refine fy HF HM 54 rfl rfl rfl (Yl.len rfl rfl (by kernel_rfl)) fun a HF => ?_
 refine fp HF 4 55 [(95, .slice A34 1 c34), (94, .bool false)] fun a HF => ?_
 obtain ⟨gA34, rfl⟩ := qbl (HM.own (i := 0) rfl) (Nat.lt_of_le_of_lt (Nat.zero_le _) (show 0 < 1 from by decide))
 refine fy HF HM 59 rfl rfl rfl (v := vP gA34 0) (Yl.indexAddr (ad := ⟨gA34, 0, none⟩) (y := 0) (sz := 5) rfl rfl rfl (by decide) (by kernel_rfl)) fun a HF => ?_
 refine fp HF 1 60 [(97, vP gA34 2)] fun a HF => ?_
 refine fy HF HM 61 rfl rfl rfl (v := vI x4.b.lost) (Yl.qh rfl rfl (by kernel_rfl) (fun _ h => h.qda qcl (i := 0) rfl (k := 0) (off := 2) (x := x4) (rfl) rfl)) fun a HF => ?_
 replace HF := HF.sp 98 (vI 2) rfl (by rw [hex4])
 refine fp HF 2 62 [(100, .bool false)] fun a HF => ?_
 refine qb rfl ?_
 replace HF := HF.to [(100, .bool false), (0, .bool false)]
 refine qd HF rfl (wp_skip (wp_seq (qa ?_)))
 refine fo HF 0 rfl rfl ?_
 refine e_cl HF [vI 9] rfl rfl (qtu 9 _ (by decide)) ?_
 rintro _ w102 ⟨gw102, rfl, hm⟩
 refine ⟨_, rfl, ?_⟩
 replace HM := (HM.join hm).nil 5 1
 clear HF; intro a HF
 refine fp HF 5 1 [(10, vI 0), (9, vP gw102 0)] fun a HF => ?_
 refine qb rfl (wp_seq (wp_seq (qa ?_)))
 refine fp HF 4 0 [(108, vP gw102 0), (107, .bool false)] fun a HF => ?_
 refine fy HF HM 4 rfl rfl rfl (v := .bool false) (Yl.qnv rfl rfl rfl) fun a HF => ?_
 refine fp HF 3 5 [(112, vP gw102 0), (111, .bool false)] fun a HF => ?_
 refine fo HF 8 rfl rfl ?_
 refine e_cl HF [vP gw102 0, vI 0] rfl rfl (qns _ _ gw102 9 none 0 [] _ (HM.picks [1, 0, 2, 3, 4, 5, 6, 7] (by decide) rfl) (by first | exact Nat.le_refl _ | omega | exact Nat.zero_le _) (by first | decide | omega) (by decide) 0 (by unfold I64; decide) B (hL.mem HM hB) hB sa5) ?_
 rintro _ w113 ⟨rfl, A113, c113, hc113, HM2⟩
 refine ⟨_, rfl, ?_⟩
 replace HM := HM2
 clear HF; intro a HF
 refine fp HF 4 9 [(117, vP gw102 0), (116, .bool false)] fun a HF => ?_
 refine fo HF 13 rfl rfl ?_
 refine e_cl HF [vP gw102 0, vI 7] rfl rfl (qns _ _ gw102 9 A113 c113 [] _ (HM.picks [0, 1, 2, 3, 4, 5, 6, 7] (by decide) rfl) (by first | exact Nat.le_refl _ | omega | exact Nat.zero_le _) (by first | decide | omega) (by decide) 7 (by unfold I64; decide) B (hL.mem HM hB) hB sa6) ?_
 rintro _ w118 ⟨rfl, A118, c118, hc118, HM2⟩
 refine ⟨_, rfl, ?_⟩
 replace HM := HM2
 clear HF; intro a HF
 refine fp HF 4 14 [(122, vP gw102 0), (121, .bool false)] fun a HF => ?_
 refine fo HF 18 rfl rfl ?_
 refine e_cl HF [vP gw102 0] rfl rfl (qtv gw102 9 A118 c118 awX _ (HM.blk (i := 0) rfl) (by decide) rfl) ?_
 rintro _ w123 ⟨rfl, hbw⟩
 refine ⟨_, rfl, ?_⟩
 replace HM := HM.call hbw
 clear HF; intro a HF
 refine fp HF 2 19 [(125, .bool false)] fun a HF => ?_
 refine qb rfl (qd HF rfl (wp_skip (wp_seq (qa ?_))))
 refine fp HF 1 0 [(127, vP gw102 0)] fun a HF => ?_
 refine fo HF 1 rfl rfl ?_
 refine e_cl HF [vP gw102 0] rfl rfl (qho gw102 9 A118 c118 awX _ (HM.blk (i := 0) rfl) (HM.rd (i := 1) rfl) (by first | decide | omega) (by decide)) ?_
 rintro _ w128 ⟨⟨A128, c128, rfl, ho, hc128⟩, hbw⟩
 refine ⟨_, rfl, ?_⟩
 replace HM := HM.callRow hbw ho
 clear HF; intro a HF
 refine fo HF 2 rfl rfl ?_
 refine zp HF HM (vs := [(0, vB 1)]) (cs := #[vB 1]) rfl ei_u8 (by decide) rfl (by kernel_rfl) rfl (by decide) ?_
 clear HF HM; intro a w129 g129 HF HM
 refine fo HF 3 rfl rfl ?_
 refine qz HF HM (i := 1) rfl ei_u8 rfl rfl rfl (news := ([1].map B8)) (HM.rdBlk (i := 0) (n := 1) (size := 1) rfl rfl) (qbp _) (by decide) (by decide) rfl (by decide) ?_
 clear HF HM; intro a w130 A130 c130 HF HM hc130
 rw [show (awX.map B8) ++ ([1].map B8) = (awX ++ [1]).map B8 from by rw [List.map_append]] at HM
 refine fo HF 4 rfl rfl ?_
 refine e_is HF HM [.slice A130 14 c130] (.tuple #[vI 1, vI 13, vI 100]) rfl rfl (qwm A130 14 c130 (awX ++ [1]) B _ (hL.mem HM hB) (HM.le hB) (HM.rd (i := 1) rfl) hc130 qvh rfl (by decide) sa7) fun w131 hbw HM a HF => ?_
 refine fp HF 7 5 [(13, vI 100), (12, vI 13), (11, vI 1)] fun a HF => ?_
 refine qb rfl (wp_seq (qa ?_))
 refine fp HF 1 0 [(135, vP gw102 0)] fun a HF => ?_
 refine fo HF 1 rfl rfl ?_
 refine e_cl HF [vP gw102 0] rfl rfl (qho gw102 9 A118 c118 awX _ (HM.blk (i := 2) rfl) (HM.rd (i := 3) rfl) (by first | decide | omega) (by decide)) ?_
 rintro _ w136 ⟨⟨A136, c136, rfl, ho, hc136⟩, hbw⟩
 refine ⟨_, rfl, ?_⟩
 replace HM := HM.callRow hbw ho
 clear HF; intro a HF
 refine fo HF 2 rfl rfl ?_
 refine e_cl HF [.slice A136 awX.length c136] rfl rfl (qo7 A136 c136 awX _ (HM.rd (i := 0) rfl) (by decide)) ?_
 rintro _ w137 ⟨g137, A137, c137, rfl, hc137, hm⟩
 refine ⟨_, rfl, ?_⟩
 replace HM := HM.join hm
 clear HF; intro a HF
 refine fp HF 1 3 [(14, vP g137 0)] fun a HF => ?_
 refine qb rfl (wp_seq (qa ?_))
 refine fp HF 1 0 [(139, vP g137 0)] fun a HF => ?_
 refine fo HF 1 rfl rfl ?_
 refine e_cl HF [vP g137 0] rfl rfl (qlk _ _ g137 0 A137 c137 awX _ (HM.picks [0, 1, 2, 3, 4, 5, 6, 7, 8, 9, 10, 11, 12] (by decide) rfl) (by decide) (by first | exact Nat.le_refl _ | omega | exact Nat.zero_le _) qud (by decide) B (hL.mem HM hB) hB (sa8) (p2 := 13) rfl) ?_
 rintro _ w140 ⟨A140, c140, rfl, hc140, HM2⟩
 refine ⟨_, rfl, ?_⟩
 replace HM := HM2
 clear HF; intro a HF
 refine fp HF 3 2 [(142, vI 0), (141, .agg #[vB 2, vB 0, vI 0, vI 7, .slice A140 0 c140])] fun a HF => ?_
 refine fo HF 5 rfl rfl ?_
 refine qq HF HM (cs := #[vB 0, vB 0, vI 0, vI 0, .slice none 0 0]) rfl (by kernel_rfl) rfl (by decide) ?_
 clear HF HM; intro a w15 g15 HF HM
 refine fo HF 6 rfl rfl ?_
 refine e_sa HF HM 0 rfl rfl rfl rfl rfl si_bk rfl rfl (by simp [Value.oneCell']) ?_
 clear HM; intro w12_6 HM
 refine fp HF 1 7 [(16, vI 0)] fun a HF => ?_
 refine qb rfl (wp_seq (qa ?_))
 refine fp HF 1 0 [(144, vP g137 0)] fun a HF => ?_
 refine fo HF 1 rfl rfl ?_
 refine e_cl HF [vP g137 0] rfl rfl (qlk _ _ g137 13 A137 c137 awX _ (HM.picks [2, 3, 0, 1, 4, 5, 6, 7, 8, 9, 10, 11, 12, 13, 14] (by decide) rfl) (by decide) (by first | exact Nat.le_refl _ | omega | exact Nat.zero_le _) qud (by decide) B (hL.mem HM hB) hB (sa9) (p2 := 13) rfl) ?_
 rintro _ w145 ⟨A145, c145, rfl, hc145, HM2⟩
 refine ⟨_, rfl, ?_⟩
 replace HM := HM2
 clear HF; intro a HF
 refine fp HF 3 2 [(147, vI 6), (146, .agg #[vB 0, vB 0, vI 0, vI 0, .slice A145 0 c145])] fun a HF => ?_
 refine fo HF 5 rfl rfl ?_
 refine qq HF HM (cs := #[vB 0, vB 0, vI 0, vI 0, .slice none 0 0]) rfl (by kernel_rfl) rfl (by decide) ?_
 clear HF HM; intro a w17 g17 HF HM
 refine fo HF 6 rfl rfl ?_
 refine e_sa HF HM 0 rfl rfl rfl rfl rfl si_bk rfl rfl (by simp [Value.oneCell']) ?_
 clear HM; intro w13_6 HM
 refine fp HF 1 7 [(18, vI 6)] fun a HF => ?_
 refine qb rfl (wp_seq (qa ?_))
 refine fp HF 16 0 [(163, vP g15 3), (162, .bool true)] fun a HF => ?_
 refine fy HF HM 16 rfl rfl rfl (Yl.qh rfl rfl (by kernel_rfl) (fun _ h => h.cell (i := 4) rfl rfl)) fun a HF => ?_
 refine fp HF 8 17 [(172, vP g137 0), (171, .bool true)] fun a HF => ?_
 refine fo HF 25 rfl rfl ?_
 refine e_is HF HM [vP g137 0] (vI 13) rfl rfl (qlj g137 13 A137 c137 awX _ (HM.blk (i := 2) rfl)) fun w173 hbw HM a HF => ?_
 refine fp HF 3 26 [(0, .bool true)] fun a HF => ?_
 refine qb rfl ?_
 replace HF := HF.to [(0, .bool true), (15, vP g15 0), (14, vP g137 0), (125, .bool false), (9, vP gw102 0), (100, .bool false)]
 refine wp_ret ?_
 exact ret1 rfl HF (.tmp HF rfl) (⟨rfl, HM.below⟩)
theorem qme (b : Bs) (A : Option Addr) (n c : Nat) (l : List Ev) (hok : ∀ e ∈ l, e.Ok) (w : World) (hr : Rd w w.heap.size 11 A n (l.flatMap evL)) (hn : n ≤ 1000000000) (hn47 : n ≤ 140737488355328) (hln : l.length = n) :
    Calls Tryd.prog 88 #[.agg b.cells, .slice A n c] w (qar w (qv b l) (zi b l)) := by
 refine qg (vs := [.agg b.cells, .slice A n c]) Tryd.func88 rfl rfl (by kernel_rfl) (σ0 := [(0, .agg b.cells), (1, .slice A n c)]) rfl ?_
 intro a HF
 have HM := Mem.start w
 refine wp_seq (qa ?_)
 refine fo HF 0 rfl rfl ?_
 refine e_box HF HM (cs := b.cells) rfl rfl rfl rfl (by decide) ?_
 clear HF HM; intro a w2 g2 HF HM
 refine fp HF 2 1 [(5, vI 0), (4, .slice none 0 0)] fun a HF => ?_
 refine qb rfl (wp_seq (wp_seq (qa ?_)))
 refine fp HF 1 0 [(13, .slice A n c)] fun a HF => ?_
 refine fo HF 1 rfl rfl ?_
 refine e_cl HF [.slice A n c] rfl rfl (qfc _ _ _ l hok _ (HM.old hr) hn47 hln) ?_
 rintro _ w14 ⟨rfl, hbw⟩
 refine ⟨_, rfl, ?_⟩
 replace HM := HM.call hbw
 clear HF; intro a HF
 refine fp HF 5 2 [(7, vI ((rowR l).2))] fun a HF => ?_
 refine qb rfl (wp_seq (qa ?_))
 refine fp HF 2 0 [(18, .bool (((rowR l).2 : Int) != (0 : Int)))] fun a HF => ?_
 refine qb rfl ?_
 rcases HF.tf 18 rfl with ⟨hb18, HF⟩ | ⟨hb18, HF⟩
 ·
  have hr0 : (rowR l).2 ≠ 0 := by rw [bne_iff_ne] at hb18; omega
  refine qe HF rfl (wp_seq (qa ?_))
  refine fp HF 3 0 [(5, vI ((rowR l).2)), (4, .slice none 0 0)] fun a HF => ?_
  refine qb rfl (wp_ret ?_)
  exact ret2 rfl HF (.tmp HF rfl) (.tmp HF rfl) (qdt (qk2 hr0) (hr0) HM.below)
 have hr0 : (rowR l).2 = 0 := by rw [bne_eq_false_iff_eq] at hb18; omega
 refine qd HF rfl (wp_skip (wp_seq (wp_seq (qa ?_))))
 refine fy HF HM 0 rfl rfl rfl (v := .agg b.cells) (Yl.zl rfl rfl ⟨(by kernel_rfl), (by kernel_rfl)⟩ rfl (fun _ h => qf (h.blk (i := 0) rfl))) fun a HF => ?_
 refine fo HF 1 rfl rfl ?_
 refine e_cl HF [.agg b.cells] rfl rfl (qhi b _) ?_
 rintro _ w21 ⟨rfl, hbw⟩
 refine ⟨_, rfl, ?_⟩
 replace HM := HM.call hbw
 clear HF; intro a HF
 refine fp HF 1 2 [(22, .bool (!b.right))] fun a HF => ?_
 refine qb rfl ?_
 rcases HF.tf 22 rfl with ⟨hb22, HF⟩ | ⟨hb22, HF⟩
 ·
  have hrf : ¬ b.right = true := by simpa using hb22
  refine qe HF rfl (wp_seq (qa ?_))
  refine fp HF 2 0 [(5, vI 70), (4, .slice none 0 0)] fun a HF => ?_
  refine qb rfl (wp_ret ?_)
  exact ret2 rfl HF (.tmp HF rfl) (.tmp HF rfl) (qdt (qjo hr0 hrf) (by decide) HM.below)
 have hrt : b.right = true := by simpa using hb22
 refine qd HF rfl (wp_skip (wp_seq (qa ?_)))
 refine fp HF 1 0 [(8, .slice none 0 0)] fun a HF => ?_
 refine qb rfl ?_
 replace HM := HM.nil 5 1
 refine wp_seq (wp_seq (qa ?_))
 refine fp HF 1 0 [(9, vI 0)] fun a HF => ?_
 refine qb rfl (wp_block ?_)
 refine qs (fun mS aS wS => ∃ (k : Nat) (bk : Bs) (Ak : Option Addr) (ck : Nat), (k ≤ n) ∧ (WriteAt b l k bk) ∧ ((zh b l k).length ≤ ck) ∧ mS = n - k ∧ Fr aS 56 [] [(9, vI k), (8, .slice Ak ((zh b l k).length) ck), (22, .bool false), (18, .bool false), (7, vI ((rowR l).2)), (5, vI 0), (4, .slice none 0 0), (2, vP g2 0), (1, .slice A n c)] ∧ Mem w wS [.row (.slice Ak ((zh b l k).length) ck) ((zh b l k).length) ((zh b l k).map B8) 5 1, .blk g2 bk.cells 165]) (m := n - 0) ⟨0, b, none, 0, Nat.zero_le _, WriteAt.start b l, Nat.le_refl _, rfl, HF.sub (by kernel_rfl), HM.picks [0, 1] (by decide) rfl⟩ ?_
 clear HF HM; rintro mS a w_ ⟨k, bk, Ak, ck, hk, hat, hck, rfl, HF, HM⟩
 refine wp_seq (wp_seq (qa ?_))
 refine fp HF 2 0 [(24, .slice A n c), (23, vI k)] fun a HF => ?_
 refine fy HF HM 2 rfl rfl rfl (Yl.len rfl rfl (by kernel_rfl)) fun a HF => ?_
 refine fp HF 1 3 [(26, .bool (decide ((k : Int) < (n : Int))))] fun a HF => ?_
 refine qb rfl ?_
 rcases HF.tf 26 rfl with ⟨hb26, HF⟩ | ⟨hb26, HF⟩
 ·
  have hk26 : k < n := by simp at hb26; omega
  obtain ⟨e, hke⟩ : ∃ e, l[k]? = some e := ⟨_, List.getElem?_eq_getElem (by omega)⟩
  have hpl := qrr bk e
  have hwl := qmd b l k
  refine qe HF rfl (wp_skip (wp_seq (wp_block (wp_seq ?_))))
  refine qac HM [.row (.slice Ak ((zh b l k).length) ck) ((zh b l k).length) ((zh b l k).map B8) 5 1, .blk g2 bk.cells 165] [0, 1] [] fun HM HS => ?_
  refine ap HF (fun _ => HS) [1, 2] #[false, true, true, false, false, false, false, false, false, false, false] [(32, vI k), (31, .slice A n c)] fun a HF => ?_
  refine ay HF HS 0 rfl rfl rfl (v := .agg bk.cells) (Yl.zl rfl rfl ⟨(by kernel_rfl), (by kernel_rfl)⟩ rfl (fun _ h => qf (h.blk (i := 1) rfl))) fun a HF => ?_
  obtain ⟨gA, oA, rfl, _⟩ := hr.zm (Nat.lt_of_le_of_lt (Nat.zero_le _) (show k < n from hk26)) (by decide)
  refine ay HF HS 3 rfl rfl rfl (v := vP gA (oA + k * 11)) (Yl.ix gA oA k 11 rfl rfl rfl (hk26)) fun a HF => ?_
  refine ay HF HS 4 rfl rfl rfl (v := .agg e.cells) (Yl.zl rfl rfl ⟨(by kernel_rfl), (by kernel_rfl)⟩ rfl (fun _ h => (h.old hr).qad qy (hke))) fun a HF => ?_
  refine qj [5] (by kernel_rfl) rfl ?_
  refine all_cons ?_ all_nil
  refine qn HF (i := 5) rfl rfl ?_
  refine e_cl HF [.agg bk.cells, .agg e.cells] rfl rfl (qrt bk e (hok e (List.mem_of_getElem? hke)) _) ?_
  rintro _ w35 ⟨⟨A35, c35, rfl, ho, hc35⟩, hbw⟩
  refine ⟨_, rfl, ?_⟩
  replace HM := HM.callRow hbw ho
  clear HF; intro a HF
  refine keepS (HM.picks [1, 2] (by decide) rfl) (fun HS => ?_)
  refine ap HF (fun _ => HS) [6, 7, 8, 9, 10] #[true, true, true, true, true, true, true, true, true, true, true] [(11, vI (qx bk e)), (10, .slice A35 ((zy bk e).length) c35)] fun a HF => ?_
  refine ql (by kernel_rfl) ?_
  refine wp_seq (wp_seq (qa ?_))
  refine fp HF 2 0 [(39, .bool ((qx bk e : Int) != (0 : Int)))] fun a HF => ?_
  refine qb rfl ?_
  rcases HF.tf 39 rfl with ⟨hb39, HF⟩ | ⟨hb39, HF⟩
  ·
   have hpe : qx bk e ≠ 0 := by rw [bne_iff_ne] at hb39; omega
   have hk00 : k = 0 := hat.bad hr0 hrt hke hpe
   have hend := hat.fail hr0 hrt hke hk00 hpe
   refine qe HF rfl (wp_seq (qa ?_))
   refine fp HF 3 0 [(5, vI (qx bk e)), (4, .slice none 0 0)] fun a HF => ?_
   refine qb rfl (wp_ret ?_)
   exact ret2 rfl HF (.tmp HF rfl) (.tmp HF rfl) (qdt (hend) (hpe) HM.below)
  have hpe : qx bk e = 0 := by rw [bne_eq_false_iff_eq] at hb39; omega
  have hup := hat.up hke hpe
  have hnx := hat.next hke hpe
  refine qd HF rfl (wp_skip (wp_seq (qa ?_)))
  refine fp HF 2 0 [(42, .slice A35 ((zy bk e).length) c35), (41, .slice Ak ((zh b l k).length) ck)] fun a HF => ?_
  refine fo HF 2 rfl rfl ?_
  refine qz HF HM (i := 1) rfl ei_u8 rfl rfl rfl (news := ((zy bk e).map B8)) (HM.rd (i := 0) rfl) (qbp _) (by omega) (by omega) rfl (by decide) ?_
  clear HF HM; intro a w43 A43 c43 HF HM hc43
  refine fp HF 1 3 [(8, .slice A43 (((zh b l k).length) + ((zy bk e).length)) c43)] fun a HF => ?_
  refine qb rfl ?_
  have hnA43 : ((zh b l k).length) + ((zy bk e).length) = (zh b l (k + 1)).length := by rw [hup]; simp
  replace HM := HM.reRow (i := 1) (ys := (zh b l (k + 1)).map B8) rfl hnA43 (by rw [hup]; simp)
  rw [hnA43] at hc43
  replace HF := HF.as (t := 8) (u := .slice A43 ((zh b l (k + 1)).length) c43) rfl (by rw [hnA43])
  replace HF := HF.as (t := 43) (u := .slice A43 ((zh b l (k + 1)).length) c43) rfl (by rw [hnA43])
  refine qac HM [.row (.slice A35 ((zy bk e).length) c35) ((zy bk e).length) ((zy bk e).map B8) 5 1, .row (.slice A43 ((zh b l (k + 1)).length) c43) ((zh b l (k + 1)).length) ((zh b l (k + 1)).map B8) 5 1, .blk g2 bk.cells 165] [0, 1, 2] [11] fun HM HS => ?_
  refine ap HF (fun _ => HS) [0, 1, 5, 6] #[true, true, false, false, false, true, true, false, false, false, false, false] [(50, vI k), (49, .slice (some ⟨gA, oA, none⟩) n c), (45, vI k), (44, .slice (some ⟨gA, oA, none⟩) n c)] fun a HF => ?_
  refine ay HF HS 2 rfl rfl rfl (v := vP gA (oA + k * 11)) (Yl.ix gA oA k 11 rfl rfl rfl (hk26)) fun a HF => ?_
  refine ap HF (fun _ => HS) [3] #[true, true, true, true, false, true, true, false, false, false, false, false] [(47, vP gA (oA + k * 11))] fun a HF => ?_
  refine ay HF HS 4 rfl rfl rfl (v := vI e.seq) (Yl.qh rfl rfl (by kernel_rfl) (fun _ h => (by have := (h.old hr).partAt qy (k := k) (j := 0) (x := e) (hke) rfl; simpa using this))) fun a HF => ?_
  refine ay HF HS 7 rfl rfl rfl (v := vP gA (oA + k * 11)) (Yl.ix gA oA k 11 rfl rfl rfl (hk26)) fun a HF => ?_
  refine ap HF (fun _ => HS) [8] #[true, true, true, true, true, true, true, true, true, false, false, false] [(52, vP gA (oA + k * 11 + 1))] fun a HF => ?_
  refine ay HF HS 9 rfl rfl rfl (v := vI e.time) (Yl.qh rfl rfl (by kernel_rfl) (fun _ h => (h.old hr).partAt qy (k := k) (j := 1) (x := e) (hke) rfl)) fun a HF => ?_
  refine ay HF HS 10 rfl rfl rfl (v := .agg e.at.cells) ((Yl.build (vs := [(0, vI e.seq), (1, vI e.time)]) rfl (by kernel_rfl) (by kernel_rfl))) fun a HF => ?_
  refine qj [11] (by kernel_rfl) rfl ?_
  refine all_cons ?_ all_nil
  refine qn HF (i := 11) rfl rfl ?_
  refine e_sa HF HM 2 rfl rfl rfl rfl rfl ⟨(by kernel_rfl), (by kernel_rfl)⟩ rfl rfl (qpr e.at) ?_
  clear HM; intro w14_11 HM
  refine noS (by kernel_rfl) ?_
  refine ql (by kernel_rfl) ?_
  refine qa ?_
  refine fp HF 2 0 [(28, vI (IntKind.i64.wrap ((k : Int) + 1)))] fun a HF => ?_
  replace HF := HF.sp 28 (vI (k + 1 : Nat)) rfl (by rw [IntWalk.i64_in _ (by omega)]; simp)
  refine fp HF 1 2 [(9, vI (k + 1 : Nat))] fun a HF => ?_
  refine qb rfl ?_
  exact ⟨_, (by omega), k + 1, e.at, A43, c43, by omega, hnx, hc43, rfl, HF.sub (by kernel_rfl), HM.picks [1, 2] (by decide) rfl⟩
 obtain rfl : n = k := by simp at hb26; omega
 refine qd HF rfl (wp_exit (wp_seq (qa ?_)))
 refine fp HF 3 0 [(5, vI 0), (4, .slice Ak ((zh b l n).length) ck)] fun a HF => ?_
 refine qb rfl (wp_ret ?_)
 exact ret2 rfl HF (.tmp HF rfl) (.tmp HF rfl) (hat.done hr0 hrt hln (HM.own (i := 0) rfl) hck HM.below)
theorem qos (b : Bk) (hok : b.Ok) (A : Option Addr) (c : Nat) (w : World) (hr : Rd w w.heap.size 11 A b.evs.length (b.evs.flatMap evL)) (hn : b.evs.length ≤ 1000000) :
    Calls Tryd.prog 71 #[.agg (b.cells A c)] w (Is w (.bool b.fits)) := by
 refine qg (vs := [.agg (b.cells A c)]) Tryd.func71 rfl rfl (by kernel_rfl) (σ0 := [(0, .agg (b.cells A c))]) rfl ?_
 intro a HF
 have HM := Mem.start w
 refine wp_seq (qa ?_)
 refine fo HF 0 rfl rfl ?_
 refine e_box HF HM (cs := (b.cells A c)) rfl rfl rfl rfl (by decide) ?_
 clear HF HM; intro a w1 g1 HF HM
 refine fp HF 1 1 [(2, .bool false)] fun a HF => ?_
 refine qb rfl (wp_seq (wp_seq (qa ?_)))
 refine fp HF 1 0 [(6, vP g1 0)] fun a HF => ?_
 refine fy HF HM 1 rfl rfl rfl (v := vB b.kind) (Yl.qh rfl rfl (by kernel_rfl) (fun _ h => h.cell (i := 0) rfl (rfl))) fun a HF => ?_
 refine fp HF 1 2 [(8, .bool ((b.kind : Int) == (2 : Int)))] fun a HF => ?_
 refine qb rfl ?_
 rcases HF.tf 8 rfl with ⟨hb8, HF⟩ | ⟨hb8, HF⟩
 ·
  have hd8 := eq_of_beq hb8
  refine qe HF rfl (wp_seq (qa ?_))
  refine fp HF 1 0 [(9, vP g1 3)] fun a HF => ?_
  refine fy HF HM 1 rfl rfl rfl (v := vI b.next) (Yl.qh rfl rfl (by kernel_rfl) (fun _ h => h.cell (i := 0) rfl (rfl))) fun a HF => ?_
  refine fp HF 2 2 [(12, .bool (decide ((b.next : Int) ≥ (1 : Int))))] fun a HF => ?_
  rcases HF.tf 12 rfl with ⟨hb12, HF⟩ | ⟨hb12, HF⟩
  ·
   have hd12 := of_decide_eq_true hb12
   refine fp HF 1 4 [(13, vP g1 3)] fun a HF => ?_
   refine fy HF HM 5 rfl rfl rfl (v := vI b.next) (Yl.qh rfl rfl (by kernel_rfl) (fun _ h => h.cell (i := 0) rfl (rfl))) fun a HF => ?_
   refine fp HF 3 6 [(17, .bool (decide ((b.next : Int) ≤ (281474976710657 : Int))))] fun a HF => ?_
   rcases HF.tf 17 rfl with ⟨hb17, HF⟩ | ⟨hb17, HF⟩
   ·
    have hd17 := of_decide_eq_true hb17
    refine fp HF 1 9 [(18, vP g1 1)] fun a HF => ?_
    refine fy HF HM 10 rfl rfl rfl (v := vB b.cpu) (Yl.qh rfl rfl (by kernel_rfl) (fun _ h => h.cell (i := 0) rfl (rfl))) fun a HF => ?_
    refine fp HF 3 11 [(22, .bool ((b.cpu : Int) == (0 : Int)))] fun a HF => ?_
    rcases HF.tf 22 rfl with ⟨hb22, HF⟩ | ⟨hb22, HF⟩
    ·
     have hd22 := eq_of_beq hb22
     refine fp HF 1 14 [(23, vP g1 2)] fun a HF => ?_
     refine fy HF HM 15 rfl rfl rfl (v := vI b.lost) (Yl.qh rfl rfl (by kernel_rfl) (fun _ h => h.cell (i := 0) rfl (rfl))) fun a HF => ?_
     refine fp HF 3 16 [(27, .bool ((b.lost : Int) == (0 : Int)))] fun a HF => ?_
     rcases HF.tf 27 rfl with ⟨hb27, HF⟩ | ⟨hb27, HF⟩
     ·
      have hd27 := eq_of_beq hb27
      refine fp HF 1 19 [(28, vP g1 4)] fun a HF => ?_
      refine fy HF HM 20 rfl rfl rfl (v := .slice A b.evs.length c) (Yl.qh rfl rfl (by kernel_rfl) (fun _ h => h.cell (i := 0) rfl (rfl))) fun a HF => ?_
      refine fy HF HM 21 rfl rfl rfl (Yl.len rfl rfl (by kernel_rfl)) fun a HF => ?_
      refine fp HF 3 22 [(2, .bool ((b.evs.length : Int) == (0 : Int)))] fun a HF => ?_
      refine qb rfl (wp_ret ?_)
      exact ret1 rfl HF (.tmp HF rfl) (⟨congrArg (fun x => Ending.returned (.bool x)) (by rw [qe8 (by omega), Bool.eq_iff_iff, beq_iff_eq, decide_eq_true_eq]; omega), HM.below⟩)
     have hd27 := ne_of_beq_false hb27
     refine fp HF 6 19 [(2, .bool false)] fun a HF => ?_
     refine qb rfl (wp_ret ?_)
     exact ret1 rfl HF (.tmp HF rfl) (⟨by rw [qe8 (by omega), decide_eq_false (by omega)], HM.below⟩)
    have hd22 := ne_of_beq_false hb22
    refine fp HF 11 14 [(2, .bool false)] fun a HF => ?_
    refine qb rfl (wp_ret ?_)
    exact ret1 rfl HF (.tmp HF rfl) (⟨by rw [qe8 (by omega), decide_eq_false (by omega)], HM.below⟩)
   have hd17 := of_decide_eq_false hb17
   refine fp HF 16 9 [(2, .bool false)] fun a HF => ?_
   refine qb rfl (wp_ret ?_)
   exact ret1 rfl HF (.tmp HF rfl) (⟨by rw [qe8 (by omega), decide_eq_false (by omega)], HM.below⟩)
  have hd12 := of_decide_eq_false hb12
  refine fp HF 21 4 [(2, .bool false)] fun a HF => ?_
  refine qb rfl (wp_ret ?_)
  exact ret1 rfl HF (.tmp HF rfl) (⟨by rw [qe8 (by omega), decide_eq_false (by omega)], HM.below⟩)
 have hd8 := ne_of_beq_false hb8
 refine qd HF rfl (wp_skip (wp_seq (wp_seq (qa ?_))))
 refine fp HF 1 0 [(33, vP g1 0)] fun a HF => ?_
 refine fy HF HM 1 rfl rfl rfl (v := vB b.kind) (Yl.qh rfl rfl (by kernel_rfl) (fun _ h => h.cell (i := 0) rfl (rfl))) fun a HF => ?_
 refine fp HF 2 2 [(36, .bool ((b.kind : Int) != (1 : Int)))] fun a HF => ?_
 rcases HF.tf 36 rfl with ⟨hb36, HF⟩ | ⟨hb36, HF⟩
 ·
  have hd36 := bne_iff_ne.1 hb36
  refine fp HF 30 4 [(66, .bool true)] fun a HF => ?_
  refine qb rfl (qe HF rfl (wp_seq (qa ?_)))
  refine fp HF 1 0 [(2, .bool false)] fun a HF => ?_
  refine qb rfl (wp_ret ?_)
  exact ret1 rfl HF (.tmp HF rfl) (⟨by rw [qd5 (by omega) (by omega)], HM.below⟩)
 have hd36 := bne_eq_false_iff_eq.1 hb36
 refine fp HF 1 4 [(37, vP g1 1)] fun a HF => ?_
 refine fy HF HM 5 rfl rfl rfl (v := vB b.cpu) (Yl.qh rfl rfl (by kernel_rfl) (fun _ h => h.cell (i := 0) rfl (rfl))) fun a HF => ?_
 refine fp HF 3 6 [(41, .bool (decide ((b.cpu : Int) > (63 : Int))))] fun a HF => ?_
 rcases HF.tf 41 rfl with ⟨hb41, HF⟩ | ⟨hb41, HF⟩
 ·
  have hd41 := of_decide_eq_true hb41
  refine fp HF 25 9 [(66, .bool true)] fun a HF => ?_
  refine qb rfl (qe HF rfl (wp_seq (qa ?_)))
  refine fp HF 1 0 [(2, .bool false)] fun a HF => ?_
  refine qb rfl (wp_ret ?_)
  exact ret1 rfl HF (.tmp HF rfl) (⟨by rw [qd5 (by omega) (by omega)], HM.below⟩)
 have hd41 := of_decide_eq_false hb41
 refine fp HF 1 9 [(42, vP g1 2)] fun a HF => ?_
 refine fy HF HM 10 rfl rfl rfl (v := vI b.lost) (Yl.qh rfl rfl (by kernel_rfl) (fun _ h => h.cell (i := 0) rfl (rfl))) fun a HF => ?_
 refine fp HF 3 11 [(46, .bool (decide ((b.lost : Int) < (0 : Int))))] fun a HF => ?_
 rcases HF.tf 46 rfl with ⟨hb46, HF⟩ | ⟨hb46, HF⟩
 ·
  have hd46 := of_decide_eq_true hb46
  refine fp HF 20 14 [(66, .bool true)] fun a HF => ?_
  refine qb rfl (qe HF rfl (wp_seq (qa ?_)))
  refine fp HF 1 0 [(2, .bool false)] fun a HF => ?_
  refine qb rfl (wp_ret ?_)
  exact ret1 rfl HF (.tmp HF rfl) (⟨by rw [qd5 (by omega) (by omega)], HM.below⟩)
 have hd46 := of_decide_eq_false hb46
 refine fp HF 1 14 [(47, vP g1 2)] fun a HF => ?_
 refine fy HF HM 15 rfl rfl rfl (v := vI b.lost) (Yl.qh rfl rfl (by kernel_rfl) (fun _ h => h.cell (i := 0) rfl (rfl))) fun a HF => ?_
 refine fp HF 3 16 [(51, .bool (decide ((b.lost : Int) > (281474976710656 : Int))))] fun a HF => ?_
 rcases HF.tf 51 rfl with ⟨hb51, HF⟩ | ⟨hb51, HF⟩
 ·
  have hd51 := of_decide_eq_true hb51
  refine fp HF 15 19 [(66, .bool true)] fun a HF => ?_
  refine qb rfl (qe HF rfl (wp_seq (qa ?_)))
  refine fp HF 1 0 [(2, .bool false)] fun a HF => ?_
  refine qb rfl (wp_ret ?_)
  exact ret1 rfl HF (.tmp HF rfl) (⟨by rw [qd5 (by omega) (by omega)], HM.below⟩)
 have hd51 := of_decide_eq_false hb51
 refine fp HF 1 19 [(52, vP g1 3)] fun a HF => ?_
 refine fy HF HM 20 rfl rfl rfl (v := vI b.next) (Yl.qh rfl rfl (by kernel_rfl) (fun _ h => h.cell (i := 0) rfl (rfl))) fun a HF => ?_
 refine fp HF 3 21 [(56, .bool ((b.next : Int) != (0 : Int)))] fun a HF => ?_
 rcases HF.tf 56 rfl with ⟨hb56, HF⟩ | ⟨hb56, HF⟩
 ·
  have hd56 := bne_iff_ne.1 hb56
  refine fp HF 10 24 [(66, .bool true)] fun a HF => ?_
  refine qb rfl (qe HF rfl (wp_seq (qa ?_)))
  refine fp HF 1 0 [(2, .bool false)] fun a HF => ?_
  refine qb rfl (wp_ret ?_)
  exact ret1 rfl HF (.tmp HF rfl) (⟨by rw [qd5 (by omega) (by omega)], HM.below⟩)
 have hd56 := bne_eq_false_iff_eq.1 hb56
 refine fp HF 1 24 [(57, vP g1 2)] fun a HF => ?_
 refine fy HF HM 25 rfl rfl rfl (v := vI b.lost) (Yl.qh rfl rfl (by kernel_rfl) (fun _ h => h.cell (i := 0) rfl (rfl))) fun a HF => ?_
 refine fp HF 2 26 [(60, .bool ((b.lost : Int) == (0 : Int)))] fun a HF => ?_
 rcases HF.tf 60 rfl with ⟨hb60, HF⟩ | ⟨hb60, HF⟩
 ·
  have hd60 := eq_of_beq hb60
  refine fp HF 1 28 [(61, vP g1 4)] fun a HF => ?_
  refine fy HF HM 29 rfl rfl rfl (v := .slice A b.evs.length c) (Yl.qh rfl rfl (by kernel_rfl) (fun _ h => h.cell (i := 0) rfl (rfl))) fun a HF => ?_
  refine fy HF HM 30 rfl rfl rfl (Yl.len rfl rfl (by kernel_rfl)) fun a HF => ?_
  refine fp HF 3 31 [(66, .bool ((b.evs.length : Int) == (0 : Int)))] fun a HF => ?_
  refine qb rfl ?_
  rcases HF.tf 66 rfl with ⟨hb66, HF⟩ | ⟨hb66, HF⟩
  ·
   have hd66 := eq_of_beq hb66
   refine qe HF rfl (wp_seq (qa ?_))
   refine fp HF 1 0 [(2, .bool false)] fun a HF => ?_
   refine qb rfl (wp_ret ?_)
   exact ret1 rfl HF (.tmp HF rfl) (⟨by rw [qd5 (by omega) (by omega)], HM.below⟩)
  have hd66 := ne_of_beq_false hb66
  refine qd HF rfl (wp_skip (wp_seq (wp_seq (qa ?_))))
  refine fp HF 1 0 [(3, vI 0)] fun a HF => ?_
  refine qb rfl (wp_block ?_)
  refine qs (fun mS aS wS => ∃ (k : Nat), (k ≤ b.evs.length) ∧ (∀ i, i < k → (b.evs.getD i Ev.zero).cpu = b.cpu) ∧ mS = b.evs.length - k ∧ Fr aS 91 [] [(3, vI k), (66, .bool false), (8, .bool false), (2, .bool false), (1, vP g1 0)] ∧ Mem w wS [.blk g1 (b.cells A c) 114]) (m := b.evs.length - 0) ⟨0, Nat.zero_le _, fun i hi => absurd hi (Nat.not_lt_zero _), rfl, HF.sub (by kernel_rfl), HM.picks [0] (by decide) rfl⟩ ?_
  clear HF HM; rintro mS a w_ ⟨k, hk, hall, rfl, HF, HM⟩
  refine wp_seq (wp_seq (qa ?_))
  refine fp HF 2 0 [(68, vP g1 4), (67, vI k)] fun a HF => ?_
  refine fy HF HM 2 rfl rfl rfl (v := .slice A b.evs.length c) (Yl.qh rfl rfl (by kernel_rfl) (fun _ h => h.cell (i := 0) rfl (rfl))) fun a HF => ?_
  refine fy HF HM 3 rfl rfl rfl (Yl.len rfl rfl (by kernel_rfl)) fun a HF => ?_
  refine fp HF 1 4 [(71, .bool (decide ((k : Int) < (b.evs.length : Int))))] fun a HF => ?_
  refine qb rfl ?_
  rcases HF.tf 71 rfl with ⟨hb71, HF⟩ | ⟨hb71, HF⟩
  ·
   have hd71 := of_decide_eq_true hb71
   refine qe HF rfl (wp_skip (wp_seq (wp_block (wp_seq ?_))))
   refine qac HM [.blk g1 (b.cells A c) 114] [0] [] fun HM HS => ?_
   refine ap HF (fun _ => HS) [0, 2, 6] #[true, false, true, false, false, false, true, false, false] [(80, vP g1 1), (76, vI k), (74, vP g1 4)] fun a HF => ?_
   refine ay HF HS 1 rfl rfl rfl (v := .slice A b.evs.length c) (Yl.qh rfl rfl (by kernel_rfl) (fun _ h => h.cell (i := 0) rfl (rfl))) fun a HF => ?_
   obtain ⟨gA, oA, rfl, _⟩ := hr.zm (Nat.lt_of_le_of_lt (Nat.zero_le _) (show k < b.evs.length from by omega)) (by decide)
   refine ay HF HS 3 rfl rfl rfl (v := vP gA (oA + k * 11)) (Yl.ix gA oA k 11 rfl rfl rfl) fun a HF => ?_
   refine ap HF (fun _ => HS) [4] #[true, true, true, true, true, false, true, false, false] [(78, vP gA (oA + k * 11 + 2))] fun a HF => ?_
   refine ay HF HS 5 rfl rfl rfl (v := vB ((b.evs.getD k Ev.zero).cpu)) (Yl.qh rfl rfl (by kernel_rfl) (fun _ h => (h.old hr).partAt qy (k := k) (j := 2) (x := (b.evs.getD k Ev.zero)) ((getD_at Ev.zero (k := k) (by first | omega | (simp; omega)))) rfl)) fun a HF => ?_
   refine ay HF HS 7 rfl rfl rfl (v := vB b.cpu) (Yl.qh rfl rfl (by kernel_rfl) (fun _ h => h.cell (i := 0) rfl (rfl))) fun a HF => ?_
   refine ap HF (fun _ => HS) [8] #[true, true, true, true, true, true, true, true, true] [(82, .bool (((b.evs.getD k Ev.zero).cpu : Int) != (b.cpu : Int)))] fun a HF => ?_
   refine ql (by kernel_rfl) ?_
   rcases HF.tf 82 rfl with ⟨hb82, HF⟩ | ⟨hb82, HF⟩
   ·
    have hd82 := bne_iff_ne.1 hb82
    refine qe HF rfl (wp_seq (qa ?_))
    refine fp HF 1 0 [(2, .bool false)] fun a HF => ?_
    refine qb rfl (wp_ret ?_)
    exact ret1 rfl HF (.tmp HF rfl) (⟨by rw [qng hok (by omega) (k := k) (by omega) (by omega)], HM.below⟩)
   have hd82 := bne_eq_false_iff_eq.1 hb82
   refine qd HF rfl (wp_skip (qa ?_))
   refine fp HF 2 0 [(73, vI (IntKind.i64.wrap ((k : Int) + 1)))] fun a HF => ?_
   replace HF := HF.sp 73 (vI (k + 1 : Nat)) rfl (qo (by omega) (by omega))
   refine fp HF 1 2 [(3, vI (k + 1 : Nat))] fun a HF => ?_
   refine qb rfl ?_
   exact ⟨_, (by omega), k + 1, by omega, fun i hi => (Nat.lt_succ_iff_lt_or_eq.1 hi).elim (hall i) (fun h => by subst h; omega), rfl, HF.sub (by kernel_rfl), HM.picks [0] (by decide) rfl⟩
  have hd71 := of_decide_eq_false hb71
  refine qd HF rfl (wp_exit (wp_seq (qa ?_)))
  refine fp HF 1 0 [(84, vP g1 4)] fun a HF => ?_
  refine fy HF HM 1 rfl rfl rfl (v := .slice A b.evs.length c) (Yl.qh rfl rfl (by kernel_rfl) (fun _ h => h.cell (i := 0) rfl (rfl))) fun a HF => ?_
  refine fo HF 2 rfl rfl ?_
  refine e_cl HF [.slice A b.evs.length c] rfl rfl (qfc _ _ _ b.evs hok.evs _ (HM.old hr) (by omega) rfl) ?_
  rintro _ w86 ⟨rfl, hbw⟩
  refine ⟨_, rfl, ?_⟩
  replace HM := HM.call hbw
  clear HF; intro a HF
  refine fp HF 5 3 [(5, vI ((rowR b.evs).2))] fun a HF => ?_
  refine qb rfl (wp_seq (qa ?_))
  refine fp HF 3 0 [(2, .bool (((rowR b.evs).2 : Int) == (0 : Int)))] fun a HF => ?_
  refine qb rfl (wp_ret ?_)
  exact ret1 rfl HF (.tmp HF rfl) (⟨congrArg (fun x => Ending.returned (.bool x)) (by rw [qe9 (by omega) (by omega) (by omega) (by omega) (by omega) (by omega) (fun i hi => hall i (by omega)), Bool.eq_iff_iff, beq_iff_eq, decide_eq_true_eq]; omega), HM.below⟩)
 have hd60 := ne_of_beq_false hb60
 refine fp HF 6 28 [(66, .bool false)] fun a HF => ?_
 refine qb rfl (qd HF rfl (wp_skip (wp_seq (wp_seq (qa ?_)))))
 refine fp HF 1 0 [(3, vI 0)] fun a HF => ?_
 refine qb rfl (wp_block ?_)
 refine qs (fun mS aS wS => ∃ (k : Nat), (k ≤ b.evs.length) ∧ (∀ i, i < k → (b.evs.getD i Ev.zero).cpu = b.cpu) ∧ mS = b.evs.length - k ∧ Fr aS 91 [] [(3, vI k), (66, .bool false), (8, .bool false), (2, .bool false), (1, vP g1 0)] ∧ Mem w wS [.blk g1 (b.cells A c) 114]) (m := b.evs.length - 0) ⟨0, Nat.zero_le _, fun i hi => absurd hi (Nat.not_lt_zero _), rfl, HF.sub (by kernel_rfl), HM.picks [0] (by decide) rfl⟩ ?_
 clear HF HM; rintro mS a w_ ⟨k, hk, hall, rfl, HF, HM⟩
 refine wp_seq (wp_seq (qa ?_))
 refine fp HF 2 0 [(68, vP g1 4), (67, vI k)] fun a HF => ?_
 refine fy HF HM 2 rfl rfl rfl (v := .slice A b.evs.length c) (Yl.qh rfl rfl (by kernel_rfl) (fun _ h => h.cell (i := 0) rfl (rfl))) fun a HF => ?_
 refine fy HF HM 3 rfl rfl rfl (Yl.len rfl rfl (by kernel_rfl)) fun a HF => ?_
 refine fp HF 1 4 [(71, .bool (decide ((k : Int) < (b.evs.length : Int))))] fun a HF => ?_
 refine qb rfl ?_
 rcases HF.tf 71 rfl with ⟨hb71, HF⟩ | ⟨hb71, HF⟩
 ·
  have hd71 := of_decide_eq_true hb71
  refine qe HF rfl (wp_skip (wp_seq (wp_block (wp_seq ?_))))
  refine qac HM [.blk g1 (b.cells A c) 114] [0] [] fun HM HS => ?_
  refine ap HF (fun _ => HS) [0, 2, 6] #[true, false, true, false, false, false, true, false, false] [(80, vP g1 1), (76, vI k), (74, vP g1 4)] fun a HF => ?_
  refine ay HF HS 1 rfl rfl rfl (v := .slice A b.evs.length c) (Yl.qh rfl rfl (by kernel_rfl) (fun _ h => h.cell (i := 0) rfl (rfl))) fun a HF => ?_
  obtain ⟨gA, oA, rfl, _⟩ := hr.zm (Nat.lt_of_le_of_lt (Nat.zero_le _) (show k < b.evs.length from by omega)) (by decide)
  refine ay HF HS 3 rfl rfl rfl (v := vP gA (oA + k * 11)) (Yl.ix gA oA k 11 rfl rfl rfl) fun a HF => ?_
  refine ap HF (fun _ => HS) [4] #[true, true, true, true, true, false, true, false, false] [(78, vP gA (oA + k * 11 + 2))] fun a HF => ?_
  refine ay HF HS 5 rfl rfl rfl (v := vB ((b.evs.getD k Ev.zero).cpu)) (Yl.qh rfl rfl (by kernel_rfl) (fun _ h => (h.old hr).partAt qy (k := k) (j := 2) (x := (b.evs.getD k Ev.zero)) ((getD_at Ev.zero (k := k) (by first | omega | (simp; omega)))) rfl)) fun a HF => ?_
  refine ay HF HS 7 rfl rfl rfl (v := vB b.cpu) (Yl.qh rfl rfl (by kernel_rfl) (fun _ h => h.cell (i := 0) rfl (rfl))) fun a HF => ?_
  refine ap HF (fun _ => HS) [8] #[true, true, true, true, true, true, true, true, true] [(82, .bool (((b.evs.getD k Ev.zero).cpu : Int) != (b.cpu : Int)))] fun a HF => ?_
  refine ql (by kernel_rfl) ?_
  rcases HF.tf 82 rfl with ⟨hb82, HF⟩ | ⟨hb82, HF⟩
  ·
   have hd82 := bne_iff_ne.1 hb82
   refine qe HF rfl (wp_seq (qa ?_))
   refine fp HF 1 0 [(2, .bool false)] fun a HF => ?_
   refine qb rfl (wp_ret ?_)
   exact ret1 rfl HF (.tmp HF rfl) (⟨by rw [qng hok (by omega) (k := k) (by omega) (by omega)], HM.below⟩)
  have hd82 := bne_eq_false_iff_eq.1 hb82
  refine qd HF rfl (wp_skip (qa ?_))
  refine fp HF 2 0 [(73, vI (IntKind.i64.wrap ((k : Int) + 1)))] fun a HF => ?_
  replace HF := HF.sp 73 (vI (k + 1 : Nat)) rfl (qo (by omega) (by omega))
  refine fp HF 1 2 [(3, vI (k + 1 : Nat))] fun a HF => ?_
  refine qb rfl ?_
  exact ⟨_, (by omega), k + 1, by omega, fun i hi => (Nat.lt_succ_iff_lt_or_eq.1 hi).elim (hall i) (fun h => by subst h; omega), rfl, HF.sub (by kernel_rfl), HM.picks [0] (by decide) rfl⟩
 have hd71 := of_decide_eq_false hb71
 refine qd HF rfl (wp_exit (wp_seq (qa ?_)))
 refine fp HF 1 0 [(84, vP g1 4)] fun a HF => ?_
 refine fy HF HM 1 rfl rfl rfl (v := .slice A b.evs.length c) (Yl.qh rfl rfl (by kernel_rfl) (fun _ h => h.cell (i := 0) rfl (rfl))) fun a HF => ?_
 refine fo HF 2 rfl rfl ?_
 refine e_cl HF [.slice A b.evs.length c] rfl rfl (qfc _ _ _ b.evs hok.evs _ (HM.old hr) (by omega) rfl) ?_
 rintro _ w86 ⟨rfl, hbw⟩
 refine ⟨_, rfl, ?_⟩
 replace HM := HM.call hbw
 clear HF; intro a HF
 refine fp HF 5 3 [(5, vI ((rowR b.evs).2))] fun a HF => ?_
 refine qb rfl (wp_seq (qa ?_))
 refine fp HF 3 0 [(2, .bool (((rowR b.evs).2 : Int) == (0 : Int)))] fun a HF => ?_
 refine qb rfl (wp_ret ?_)
 exact ret1 rfl HF (.tmp HF rfl) (⟨congrArg (fun x => Ending.returned (.bool x)) (by rw [qe9 (by omega) (by omega) (by omega) (by omega) (by omega) (by omega) (fun i hi => hall i (by omega)), Bool.eq_iff_iff, beq_iff_eq, decide_eq_true_eq]; omega), HM.below⟩)
theorem qmf (b : Bk) (hok : b.Ok) (A : Option Addr) (c : Nat) (w : World) (hr : Rd w w.heap.size 11 A b.evs.length (b.evs.flatMap evL)) (hn : b.evs.length ≤ 1000000) (hf : b.fits = true) :
    Calls Tryd.prog 72 #[.agg (b.cells A c)] w (zz w b.raw) := by
 refine qg (vs := [.agg (b.cells A c)]) Tryd.func72 rfl rfl (by kernel_rfl) (σ0 := [(0, .agg (b.cells A c))]) rfl ?_
 intro a HF
 have HM := Mem.start w
 refine wp_seq (qa ?_)
 refine fo HF 0 rfl rfl ?_
 refine e_box HF HM (cs := (b.cells A c)) rfl rfl rfl rfl (by decide) ?_
 clear HF HM; intro a w1 g1 HF HM
 refine fp HF 1 1 [(2, .slice none 0 0)] fun a HF => ?_
 refine qb rfl ?_
 have hbl := qb8 b
 refine wp_seq (qa ?_)
 refine fp HF 1 0 [(3, .slice none 0 0)] fun a HF => ?_
 refine qb rfl (wp_seq (wp_seq (qa ?_)))
 refine fp HF 1 0 [(9, vP g1 0)] fun a HF => ?_
 refine fy HF HM 1 rfl rfl rfl (v := vB b.kind) (Yl.qh rfl rfl (by kernel_rfl) (fun _ h => h.cell (i := 0) rfl (rfl))) fun a HF => ?_
 refine fp HF 1 2 [(11, .bool ((b.kind : Int) == (2 : Int)))] fun a HF => ?_
 refine qb rfl ?_
 rcases HF.tf 11 rfl with ⟨hb11, HF⟩ | ⟨hb11, HF⟩
 ·
  have hd11 := eq_of_beq hb11
  have hk2 : b.kind = 2 := by omega
  obtain ⟨n1, n2, n3, n4, n5⟩ := qg1 hf hk2
  refine qe HF rfl (qa ?_)
  refine fp HF 1 0 [(12, vP g1 3)] fun a HF => ?_
  refine fy HF HM 1 rfl rfl rfl (v := vI b.next) (Yl.qh rfl rfl (by kernel_rfl) (fun _ h => h.cell (i := 0) rfl (rfl))) fun a HF => ?_
  refine fp HF 1 2 [(14, vQ (IntKind.u64.wrap b.next))] fun a HF => ?_
  replace HF := HF.sp 14 (vQ b.next.toNat) rfl (qaa (by omega) (by omega))
  refine fo HF 3 rfl rfl ?_
  refine e_cl HF [vQ b.next.toNat] rfl rfl (qis b.next.toNat _ (by omega)) ?_
  rintro _ w15 ⟨⟨A15, c15, rfl, ho, hc15⟩, hbw⟩
  refine ⟨_, rfl, ?_⟩
  replace HM := HM.callRow hbw ho
  clear HF; intro a HF
  refine fp HF 1 4 [(3, .slice A15 (((vbytes b.next.toNat)).length) c15)] fun a HF => ?_
  refine qb rfl ?_
  refine qaq (fun aS wS => ∃ (Ax : Option Addr) (cx : Nat), (b.body.length ≤ cx) ∧ Fr aS 83 [] [(3, .slice Ax b.body.length cx), (2, .slice none 0 0), (1, vP g1 0)] ∧ Mem w wS [.row (.slice Ax b.body.length cx) b.body.length (b.body.map B8) 5 1, .blk g1 (b.cells A c) 114]) ?_ ?_
  ·
   refine wp_seq (qa ?_)
   refine fp HF 1 0 [(28, vP g1 4)] fun a HF => ?_
   refine fy HF HM 1 rfl rfl rfl (v := .slice A b.evs.length c) (Yl.qh rfl rfl (by kernel_rfl) (fun _ h => h.cell (i := 1) rfl (rfl))) fun a HF => ?_
   refine fy HF HM 2 rfl rfl rfl (Yl.len rfl rfl (by kernel_rfl)) fun a HF => ?_
   refine fp HF 1 3 [(31, .bool (decide ((b.evs.length : Int) > (0 : Int))))] fun a HF => ?_
   refine qb rfl ?_
   have hb31 : (decide ((b.evs.length : Int) > (0 : Int))) = false := by rw [decide_eq_false (by omega)]
   have HF := HF.as (t := 31) (u := .bool false) rfl (by rw [hb31])
   have hnA15 : ((vbytes b.next.toNat)).length = b.body.length := by rw [qnn hk2]
   replace HM := HM.reRow (i := 0) (ys := b.body.map B8) rfl hnA15 (by rw [qnn hk2])
   replace HF := HF.as (t := 3) (u := .slice A15 b.body.length c15) rfl (by rw [hnA15])
   refine qd HF rfl (wp_skip ?_)
   exact ⟨A15, c15, by omega, HF.sub (by kernel_rfl), HM.picks [0, 1] (by decide) rfl⟩
  clear HF HM; rintro a w9 ⟨Ax, cx, hcx, HF, HM⟩
  refine wp_seq (qa ?_)
  refine fp HF 1 0 [(60, .slice Ax b.body.length cx)] fun a HF => ?_
  refine fy HF HM 1 rfl rfl rfl (Yl.len rfl rfl (by kernel_rfl)) fun a HF => ?_
  refine fp HF 1 2 [(62, vI (IntKind.i64.wrap ((b.body.length : Int) + 12)))] fun a HF => ?_
  replace HF := HF.sp 62 (vI (b.body.length + 12 : Nat)) rfl (qo (by omega) (by omega))
  refine fp HF 1 3 [(7, vI (b.body.length + 12 : Nat))] fun a HF => ?_
  refine qb rfl ?_
  have hbl := qb8 b
  refine wp_seq (qa ?_)
  refine fp HF 2 0 [(64, vI (Int.tmod ((b.body.length + 12 : Nat) : Int) 256))] fun a HF => ?_
  replace HF := HF.sp 64 (vI ((b.body.length + 12) % 256 : Nat)) rfl (qdy .i64 _ 256)
  refine fp HF 1 2 [(65, vB (IntKind.u8.wrap (((b.body.length + 12) % 256 : Nat) : Int)))] fun a HF => ?_
  replace HF := HF.sp 65 (vB ((b.body.length + 12) % 256 : Nat)) rfl ((qcg ((b.body.length + 12) % 256)).trans (by rw [Nat.mod_mod]))
  refine fp HF 2 3 [(67, vI (IntKind.i64.wrap (Int.tdiv ((b.body.length + 12 : Nat) : Int) 256)))] fun a HF => ?_
  replace HF := HF.sp 67 (vI ((b.body.length + 12) / 256 : Nat)) rfl (qdz .i64 256 (by show _ ≤ 9223372036854775807; omega))
  refine fp HF 1 5 [(68, vI (Int.tmod (((b.body.length + 12) / 256 : Nat) : Int) 256))] fun a HF => ?_
  replace HF := HF.sp 68 (vI (((b.body.length + 12) / 256) % 256 : Nat)) rfl (qdy .i64 _ 256)
  refine fp HF 1 6 [(69, vB (IntKind.u8.wrap ((((b.body.length + 12) / 256) % 256 : Nat) : Int)))] fun a HF => ?_
  replace HF := HF.sp 69 (vB (((b.body.length + 12) / 256) % 256 : Nat)) rfl ((qcg (((b.body.length + 12) / 256) % 256)).trans (by rw [Nat.mod_mod]))
  refine fp HF 2 7 [(71, vI (IntKind.i64.wrap (Int.tdiv ((b.body.length + 12 : Nat) : Int) 65536)))] fun a HF => ?_
  replace HF := HF.sp 71 (vI ((b.body.length + 12) / 65536 : Nat)) rfl (qdz .i64 65536 (by show _ ≤ 9223372036854775807; omega))
  refine fp HF 1 9 [(72, vI (Int.tmod (((b.body.length + 12) / 65536 : Nat) : Int) 256))] fun a HF => ?_
  replace HF := HF.sp 72 (vI (((b.body.length + 12) / 65536) % 256 : Nat)) rfl (qdy .i64 _ 256)
  refine fp HF 1 10 [(73, vB (IntKind.u8.wrap ((((b.body.length + 12) / 65536) % 256 : Nat) : Int)))] fun a HF => ?_
  replace HF := HF.sp 73 (vB (((b.body.length + 12) / 65536) % 256 : Nat)) rfl ((qcg (((b.body.length + 12) / 65536) % 256)).trans (by rw [Nat.mod_mod]))
  refine fp HF 2 11 [(75, vI (IntKind.i64.wrap (Int.tdiv ((b.body.length + 12 : Nat) : Int) 16777216)))] fun a HF => ?_
  replace HF := HF.sp 75 (vI ((b.body.length + 12) / 16777216 : Nat)) rfl (qdz .i64 16777216 (by show _ ≤ 9223372036854775807; omega))
  refine fp HF 1 13 [(76, vB (IntKind.u8.wrap (((b.body.length + 12) / 16777216 : Nat) : Int)))] fun a HF => ?_
  replace HF := HF.sp 76 (vB (((b.body.length + 12) / 16777216) % 256 : Nat)) rfl (qcg ((b.body.length + 12) / 16777216))
  refine fp HF 1 14 [(77, vP g1 0)] fun a HF => ?_
  refine fy HF HM 15 rfl rfl rfl (v := vB b.kind) (Yl.qh rfl rfl (by kernel_rfl) (fun _ h => h.cell (i := 1) rfl (rfl))) fun a HF => ?_
  refine fo HF 16 rfl rfl ?_
  refine zp HF HM (vs := [(0, vB ((b.body.length + 12) % 256 : Nat)), (1, vB (((b.body.length + 12) / 256) % 256 : Nat)), (2, vB (((b.body.length + 12) / 65536) % 256 : Nat)), (3, vB (((b.body.length + 12) / 16777216) % 256 : Nat)), (4, vB 113), (5, vB 116), (6, vB 1), (7, vB b.kind)]) (cs := #[vB ((b.body.length + 12) % 256 : Nat), vB (((b.body.length + 12) / 256) % 256 : Nat), vB (((b.body.length + 12) / 65536) % 256 : Nat), vB (((b.body.length + 12) / 16777216) % 256 : Nat), vB 113, vB 116, vB 1, vB b.kind]) rfl ei_u8 (by decide) rfl (by kernel_rfl) rfl (by decide) ?_
  clear HF HM; intro a w79 g79 HF HM
  refine fp HF 1 17 [(8, vS g79 8 8)] fun a HF => ?_
  refine qb rfl (wp_seq (qa ?_))
  refine fp HF 2 0 [(81, .slice Ax b.body.length cx), (80, vS g79 8 8)] fun a HF => ?_
  refine fo HF 2 rfl rfl ?_
  replace HM := HM.blkRow (i := 0) (n := 8) (size := 1) rfl rfl (by decide)
  refine qz HF HM (i := 0) rfl ei_u8 rfl rfl rfl (news := (b.body.map B8)) (HM.rd (i := 1) rfl) (qbp _) (by omega) (by omega) rfl (by decide) ?_
  clear HF HM; intro a w82 A82 c82 HF HM hc82
  refine fp HF 1 3 [(2, .slice A82 (8 + b.body.length) c82)] fun a HF => ?_
  refine qb rfl ?_
  have hnA82 : 8 + b.body.length = b.raw.length := by rw [qcv]
  replace HM := HM.reRow (i := 0) (ys := b.raw.map B8) rfl hnA82 (raw10 b)
  rw [hnA82] at hc82
  replace HF := HF.as (t := 2) (u := .slice A82 b.raw.length c82) rfl (by rw [hnA82])
  replace HF := HF.as (t := 82) (u := .slice A82 b.raw.length c82) rfl (by rw [hnA82])
  refine wp_ret ?_
  exact ret1 rfl HF (.tmp HF rfl) (⟨⟨_, _, rfl, HM.own (i := 0) rfl, hc82⟩, HM.below⟩)
 have hd11 := ne_of_beq_false hb11
 have hk2 : b.kind ≠ 2 := by omega
 obtain ⟨m0, m1, m2, m3, m4⟩ := qg0 hf hk2
 refine qd HF rfl (qa ?_)
 refine fp HF 1 0 [(16, vP g1 1)] fun a HF => ?_
 refine fy HF HM 1 rfl rfl rfl (v := vB b.cpu) (Yl.qh rfl rfl (by kernel_rfl) (fun _ h => h.cell (i := 0) rfl (rfl))) fun a HF => ?_
 refine fp HF 1 2 [(18, vQ (IntKind.u64.wrap (b.cpu : Int)))] fun a HF => ?_
 replace HF := HF.sp 18 (vQ b.cpu) rfl (qaa rfl (by omega))
 refine fp HF 1 3 [(19, vP g1 2)] fun a HF => ?_
 refine fy HF HM 4 rfl rfl rfl (v := vI b.lost) (Yl.qh rfl rfl (by kernel_rfl) (fun _ h => h.cell (i := 0) rfl (rfl))) fun a HF => ?_
 refine fp HF 1 5 [(21, vQ (IntKind.u64.wrap b.lost))] fun a HF => ?_
 replace HF := HF.sp 21 (vQ b.lost.toNat) rfl (qaa (by omega) (by omega))
 refine fp HF 1 6 [(22, vP g1 4)] fun a HF => ?_
 refine fy HF HM 7 rfl rfl rfl (v := .slice A b.evs.length c) (Yl.qh rfl rfl (by kernel_rfl) (fun _ h => h.cell (i := 0) rfl (rfl))) fun a HF => ?_
 refine fy HF HM 8 rfl rfl rfl (Yl.len rfl rfl (by kernel_rfl)) fun a HF => ?_
 refine fp HF 1 9 [(25, vQ (IntKind.u64.wrap (b.evs.length : Int)))] fun a HF => ?_
 replace HF := HF.sp 25 (vQ b.evs.length) rfl (qaa rfl (by omega))
 refine fo HF 10 rfl rfl ?_
 refine zp HF HM (vs := [(0, vQ b.cpu), (1, vQ b.lost.toNat), (2, vQ b.evs.length)]) (cs := #[vQ b.cpu, vQ b.lost.toNat, vQ b.evs.length]) rfl qf0 (by decide) rfl (by kernel_rfl) rfl (by decide) ?_
 clear HF HM; intro a w26 g26 HF HM
 refine fo HF 11 rfl rfl ?_
 refine e_cl HF [vS g26 3 3] rfl rfl (qit _ 3 _ [b.cpu, b.lost.toNat, b.evs.length] _ (HM.rdBlk (i := 0) (n := 3) (size := 1) rfl rfl) rfl (by intro x hx; simp only [List.mem_cons, List.not_mem_nil, or_false] at hx; omega) (by omega)) ?_
 rintro _ w27 ⟨⟨A27, c27, rfl, ho, hc27⟩, hbw⟩
 refine ⟨_, rfl, ?_⟩
 replace HM := HM.callRow hbw ho
 clear HF; intro a HF
 have hfl27 := qah [b.cpu, b.lost.toNat, b.evs.length]
 simp only [List.length_cons, List.length_nil] at hfl27
 refine fp HF 1 12 [(3, .slice A27 ((([b.cpu, b.lost.toNat, b.evs.length].flatMap vbytes)).length) c27)] fun a HF => ?_
 refine qb rfl ?_
 refine qaq (fun aS wS => ∃ (Ax : Option Addr) (cx : Nat), (b.body.length ≤ cx) ∧ Fr aS 83 [] [(3, .slice Ax b.body.length cx), (2, .slice none 0 0), (1, vP g1 0)] ∧ Mem w wS [.row (.slice Ax b.body.length cx) b.body.length (b.body.map B8) 5 1, .blk g1 (b.cells A c) 114]) ?_ ?_
 ·
  refine wp_seq (qa ?_)
  refine fp HF 1 0 [(28, vP g1 4)] fun a HF => ?_
  refine fy HF HM 1 rfl rfl rfl (v := .slice A b.evs.length c) (Yl.qh rfl rfl (by kernel_rfl) (fun _ h => h.cell (i := 2) rfl (rfl))) fun a HF => ?_
  refine fy HF HM 2 rfl rfl rfl (Yl.len rfl rfl (by kernel_rfl)) fun a HF => ?_
  refine fp HF 1 3 [(31, .bool (decide ((b.evs.length : Int) > (0 : Int))))] fun a HF => ?_
  refine qb rfl ?_
  rcases HF.tf 31 rfl with ⟨hb31, HF⟩ | ⟨hb31, HF⟩
  ·
   have hd31 := of_decide_eq_true hb31
   obtain ⟨b1, b2, b3, b4⟩ : 0 ≤ (b.evs.getD 0 Ev.zero).seq ∧ (b.evs.getD 0 Ev.zero).seq ≤ 281474976710656 ∧ 0 ≤ (b.evs.getD 0 Ev.zero).time ∧ (b.evs.getD 0 Ev.zero).time ≤ 281474976710656 := by have hbd := qjh hok hf hk2 (by omega); rw [qdp] at hbd; exact hbd
   have hw07 := qic hok (qd2 hf hk2).2 (by omega)
   refine qe HF rfl (wp_seq (qa ?_))
   refine fp HF 1 0 [(32, vP g1 4)] fun a HF => ?_
   refine fy HF HM 1 rfl rfl rfl (v := .slice A b.evs.length c) (Yl.qh rfl rfl (by kernel_rfl) (fun _ h => h.cell (i := 2) rfl (rfl))) fun a HF => ?_
   obtain ⟨gA, oA, rfl, _⟩ := hr.zm (Nat.lt_of_le_of_lt (Nat.zero_le _) (show 0 < b.evs.length from by omega)) (by decide)
   refine fy HF HM 2 rfl rfl rfl (v := vP gA oA) (Yl.indexAddr (ad := ⟨gA, oA, none⟩) (y := 0) (sz := 11) rfl rfl rfl (by omega) (by kernel_rfl)) fun a HF => ?_
   refine fy HF HM 3 rfl rfl rfl (v := .agg ((b.evs.getD 0 Ev.zero).cells)) (Yl.zl rfl rfl ⟨(by kernel_rfl), (by kernel_rfl)⟩ rfl (fun _ h => (h.old hr).qad qy ((getD_at Ev.zero (k := 0) (by first | omega | (simp; omega)))))) fun a HF => ?_
   refine fo HF 4 rfl rfl ?_
   refine qq HF HM (cs := #[vI 0, vI 0, vB 0, vB 0, vI 0, vI 0, vI 0, vI 0, vI 0, vQ 0, vI 0]) rfl (by kernel_rfl) rfl (by decide) ?_
   clear HF HM; intro a w4 g4 HF HM
   refine fo HF 5 rfl rfl ?_
   refine e_sa HF HM 0 rfl rfl rfl rfl rfl ⟨(by kernel_rfl), (by kernel_rfl)⟩ rfl rfl (qaf (b.evs.getD 0 Ev.zero)) ?_
   clear HM; intro w6_5 HM
   refine qb rfl (wp_seq (qa ?_))
   refine fp HF 2 0 [(37, vP g4 0), (36, .slice A27 ((([b.cpu, b.lost.toNat, b.evs.length].flatMap vbytes)).length) c27)] fun a HF => ?_
   refine fy HF HM 2 rfl rfl rfl (v := vI ((b.evs.getD 0 Ev.zero).seq)) (Yl.qh rfl rfl (by kernel_rfl) (fun _ h => h.cell (i := 0) rfl (rfl))) fun a HF => ?_
   refine fp HF 1 3 [(39, vQ (IntKind.u64.wrap ((b.evs.getD 0 Ev.zero).seq)))] fun a HF => ?_
   replace HF := HF.sp 39 (vQ (((b.evs.getD 0 Ev.zero).seq).toNat : Nat)) rfl (qaa (by omega) (by omega))
   refine fp HF 1 4 [(40, vP g4 1)] fun a HF => ?_
   refine fy HF HM 5 rfl rfl rfl (v := vI ((b.evs.getD 0 Ev.zero).time)) (Yl.qh rfl rfl (by kernel_rfl) (fun _ h => h.cell (i := 0) rfl (rfl))) fun a HF => ?_
   refine fp HF 1 6 [(42, vQ (IntKind.u64.wrap ((b.evs.getD 0 Ev.zero).time)))] fun a HF => ?_
   replace HF := HF.sp 42 (vQ (((b.evs.getD 0 Ev.zero).time).toNat : Nat)) rfl (qaa (by omega) (by omega))
   refine fo HF 7 rfl rfl ?_
   refine zp HF HM (vs := [(0, vQ (((b.evs.getD 0 Ev.zero).seq).toNat : Nat)), (1, vQ (((b.evs.getD 0 Ev.zero).time).toNat : Nat))]) (cs := #[vQ (((b.evs.getD 0 Ev.zero).seq).toNat : Nat), vQ (((b.evs.getD 0 Ev.zero).time).toNat : Nat)]) rfl qf0 (by decide) rfl (by kernel_rfl) rfl (by decide) ?_
   clear HF HM; intro a w43 g43 HF HM
   refine fo HF 8 rfl rfl ?_
   refine e_cl HF [vS g43 2 2] rfl rfl (qit _ 2 _ [(b.evs.getD 0 Ev.zero).seq.toNat, (b.evs.getD 0 Ev.zero).time.toNat] _ (HM.rdBlk (i := 0) (n := 2) (size := 1) rfl rfl) rfl (by intro x hx; simp only [List.mem_cons, List.not_mem_nil, or_false] at hx; omega) (by omega)) ?_
   rintro _ w44 ⟨⟨A44, c44, rfl, ho, hc44⟩, hbw⟩
   refine ⟨_, rfl, ?_⟩
   replace HM := HM.callRow hbw ho
   clear HF; intro a HF
   have hfl44 := qah [(b.evs.getD 0 Ev.zero).seq.toNat, (b.evs.getD 0 Ev.zero).time.toNat]
   simp only [List.length_cons, List.length_nil] at hfl44
   refine fo HF 9 rfl rfl ?_
   refine qz HF HM (i := 3) rfl ei_u8 rfl rfl rfl (news := (([(b.evs.getD 0 Ev.zero).seq.toNat, (b.evs.getD 0 Ev.zero).time.toNat].flatMap vbytes).map B8)) (HM.rd (i := 0) rfl) (qbp _) (by omega) (by omega) rfl (by decide) ?_
   clear HF HM; intro a w45 A45 c45 HF HM hc45
   refine fp HF 1 10 [(3, .slice A45 (((([b.cpu, b.lost.toNat, b.evs.length].flatMap vbytes)).length) + ((([(b.evs.getD 0 Ev.zero).seq.toNat, (b.evs.getD 0 Ev.zero).time.toNat].flatMap vbytes)).length)) c45)] fun a HF => ?_
   refine qb rfl ?_
   replace HM := HM.picks (fs' := [.blk g4 ((b.evs.getD 0 Ev.zero).cells) 117, .row (.slice A45 (((([b.cpu, b.lost.toNat, b.evs.length].flatMap vbytes)).length) + ((([(b.evs.getD 0 Ev.zero).seq.toNat, (b.evs.getD 0 Ev.zero).time.toNat].flatMap vbytes)).length)) c45) (((([b.cpu, b.lost.toNat, b.evs.length].flatMap vbytes)).length) + ((([(b.evs.getD 0 Ev.zero).seq.toNat, (b.evs.getD 0 Ev.zero).time.toNat].flatMap vbytes)).length)) ((([b.cpu, b.lost.toNat, b.evs.length].flatMap vbytes).map B8) ++ (([(b.evs.getD 0 Ev.zero).seq.toNat, (b.evs.getD 0 Ev.zero).time.toNat].flatMap vbytes).map B8)) 5 1, .blk g1 (b.cells (some ⟨gA, oA, none⟩) c) 114]) [2, 3, 5] (by decide) rfl
   refine wp_seq (qa ?_)
   refine fp HF 1 0 [(47, vP g4 0)] fun a HF => ?_
   refine fy HF HM 1 rfl rfl rfl (v := vI ((b.evs.getD 0 Ev.zero).seq)) (Yl.qh rfl rfl (by kernel_rfl) (fun _ h => h.cell (i := 0) rfl (rfl))) fun a HF => ?_
   refine fp HF 1 2 [(49, vP g4 1)] fun a HF => ?_
   refine fy HF HM 3 rfl rfl rfl (v := vI ((b.evs.getD 0 Ev.zero).time)) (Yl.qh rfl rfl (by kernel_rfl) (fun _ h => h.cell (i := 0) rfl (rfl))) fun a HF => ?_
   refine fy HF HM 4 rfl rfl rfl (v := .agg ((⟨(b.evs.getD 0 Ev.zero).seq, (b.evs.getD 0 Ev.zero).time⟩ : Bs).cells)) ((Yl.build (vs := [(0, vI ((b.evs.getD 0 Ev.zero).seq)), (1, vI ((b.evs.getD 0 Ev.zero).time))]) rfl (by kernel_rfl) (by kernel_rfl))) fun a HF => ?_
   refine fp HF 1 5 [(52, vP g1 4)] fun a HF => ?_
   refine fy HF HM 6 rfl rfl rfl (v := .slice (some ⟨gA, oA, none⟩) b.evs.length c) (Yl.qh rfl rfl (by kernel_rfl) (fun _ h => h.cell (i := 2) rfl (rfl))) fun a HF => ?_
   refine fo HF 7 rfl rfl ?_
   refine e_cl HF [.agg ((⟨(b.evs.getD 0 Ev.zero).seq, (b.evs.getD 0 Ev.zero).time⟩ : Bs).cells), .slice (some ⟨gA, oA, none⟩) b.evs.length c] rfl rfl ((qme ⟨(b.evs.getD 0 Ev.zero).seq, (b.evs.getD 0 Ev.zero).time⟩ _ _ _ b.evs hok.evs _ (HM.old hr) (by omega) (by omega) rfl).mono (fun _ _ h => h.as (er' := 0) (R' := recs b.base b.evs) (by rw [← qdp]; exact hw07.1) (by rw [← qdp]; exact hw07.2))) ?_
   rintro _ w54 ⟨⟨A54, c54, rfl, ho, hc54⟩, hbw⟩
   refine ⟨_, rfl, ?_⟩
   replace HM := HM.callRow hbw ho
   clear HF; intro a HF
   have hrl := qe5 b.evs b.base
   refine fp HF 5 8 [(5, .slice A54 (((recs b.base b.evs)).length) c54)] fun a HF => ?_
   refine qb rfl (qa ?_)
   refine fp HF 2 0 [(58, .slice A54 (((recs b.base b.evs)).length) c54), (57, .slice A45 (((([b.cpu, b.lost.toNat, b.evs.length].flatMap vbytes)).length) + ((([(b.evs.getD 0 Ev.zero).seq.toNat, (b.evs.getD 0 Ev.zero).time.toNat].flatMap vbytes)).length)) c45)] fun a HF => ?_
   refine fo HF 2 rfl rfl ?_
   refine qz HF HM (i := 2) rfl ei_u8 rfl rfl rfl (news := ((recs b.base b.evs).map B8)) (HM.rd (i := 0) rfl) (qbp _) (by omega) (by omega) rfl (by decide) ?_
   clear HF HM; intro a w59 A59 c59 HF HM hc59
   refine fp HF 1 3 [(3, .slice A59 ((((([b.cpu, b.lost.toNat, b.evs.length].flatMap vbytes)).length) + ((([(b.evs.getD 0 Ev.zero).seq.toNat, (b.evs.getD 0 Ev.zero).time.toNat].flatMap vbytes)).length)) + (((recs b.base b.evs)).length)) c59)] fun a HF => ?_
   refine qb rfl ?_
   have hnA59 : (((([b.cpu, b.lost.toNat, b.evs.length].flatMap vbytes)).length) + ((([(b.evs.getD 0 Ev.zero).seq.toNat, (b.evs.getD 0 Ev.zero).time.toNat].flatMap vbytes)).length)) + (((recs b.base b.evs)).length) = b.body.length := by have h := congrArg List.length (qk5 hk2 (by omega)); rw [List.length_append, List.length_append] at h; omega
   replace HM := HM.reRow (i := 2) (ys := b.body.map B8) rfl hnA59 (by rw [← qk5 hk2 (by omega)]; simp)
   rw [hnA59] at hc59
   replace HF := HF.as (t := 3) (u := .slice A59 b.body.length c59) rfl (by rw [hnA59])
   replace HF := HF.as (t := 59) (u := .slice A59 b.body.length c59) rfl (by rw [hnA59])
   exact ⟨A59, c59, by omega, HF.sub (by kernel_rfl), HM.picks [2, 3] (by decide) rfl⟩
  have hd31 := of_decide_eq_false hb31
  have hnA27 : (([b.cpu, b.lost.toNat, b.evs.length].flatMap vbytes)).length = b.body.length := by rw [qk4 hk2 (by omega)]
  replace HM := HM.reRow (i := 0) (ys := b.body.map B8) rfl hnA27 (by rw [qk4 hk2 (by omega)])
  replace HF := HF.as (t := 3) (u := .slice A27 b.body.length c27) rfl (by rw [hnA27])
  refine qd HF rfl (wp_skip ?_)
  exact ⟨A27, c27, by omega, HF.sub (by kernel_rfl), HM.picks [0, 2] (by decide) rfl⟩
 clear HF HM; rintro a w9 ⟨Ax, cx, hcx, HF, HM⟩
 refine wp_seq (qa ?_)
 refine fp HF 1 0 [(60, .slice Ax b.body.length cx)] fun a HF => ?_
 refine fy HF HM 1 rfl rfl rfl (Yl.len rfl rfl (by kernel_rfl)) fun a HF => ?_
 refine fp HF 1 2 [(62, vI (IntKind.i64.wrap ((b.body.length : Int) + 12)))] fun a HF => ?_
 replace HF := HF.sp 62 (vI (b.body.length + 12 : Nat)) rfl (qo (by omega) (by omega))
 refine fp HF 1 3 [(7, vI (b.body.length + 12 : Nat))] fun a HF => ?_
 refine qb rfl ?_
 have hbl := qb8 b
 refine wp_seq (qa ?_)
 refine fp HF 2 0 [(64, vI (Int.tmod ((b.body.length + 12 : Nat) : Int) 256))] fun a HF => ?_
 replace HF := HF.sp 64 (vI ((b.body.length + 12) % 256 : Nat)) rfl (qdy .i64 _ 256)
 refine fp HF 1 2 [(65, vB (IntKind.u8.wrap (((b.body.length + 12) % 256 : Nat) : Int)))] fun a HF => ?_
 replace HF := HF.sp 65 (vB ((b.body.length + 12) % 256 : Nat)) rfl ((qcg ((b.body.length + 12) % 256)).trans (by rw [Nat.mod_mod]))
 refine fp HF 2 3 [(67, vI (IntKind.i64.wrap (Int.tdiv ((b.body.length + 12 : Nat) : Int) 256)))] fun a HF => ?_
 replace HF := HF.sp 67 (vI ((b.body.length + 12) / 256 : Nat)) rfl (qdz .i64 256 (by show _ ≤ 9223372036854775807; omega))
 refine fp HF 1 5 [(68, vI (Int.tmod (((b.body.length + 12) / 256 : Nat) : Int) 256))] fun a HF => ?_
 replace HF := HF.sp 68 (vI (((b.body.length + 12) / 256) % 256 : Nat)) rfl (qdy .i64 _ 256)
 refine fp HF 1 6 [(69, vB (IntKind.u8.wrap ((((b.body.length + 12) / 256) % 256 : Nat) : Int)))] fun a HF => ?_
 replace HF := HF.sp 69 (vB (((b.body.length + 12) / 256) % 256 : Nat)) rfl ((qcg (((b.body.length + 12) / 256) % 256)).trans (by rw [Nat.mod_mod]))
 refine fp HF 2 7 [(71, vI (IntKind.i64.wrap (Int.tdiv ((b.body.length + 12 : Nat) : Int) 65536)))] fun a HF => ?_
 replace HF := HF.sp 71 (vI ((b.body.length + 12) / 65536 : Nat)) rfl (qdz .i64 65536 (by show _ ≤ 9223372036854775807; omega))
 refine fp HF 1 9 [(72, vI (Int.tmod (((b.body.length + 12) / 65536 : Nat) : Int) 256))] fun a HF => ?_
 replace HF := HF.sp 72 (vI (((b.body.length + 12) / 65536) % 256 : Nat)) rfl (qdy .i64 _ 256)
 refine fp HF 1 10 [(73, vB (IntKind.u8.wrap ((((b.body.length + 12) / 65536) % 256 : Nat) : Int)))] fun a HF => ?_
 replace HF := HF.sp 73 (vB (((b.body.length + 12) / 65536) % 256 : Nat)) rfl ((qcg (((b.body.length + 12) / 65536) % 256)).trans (by rw [Nat.mod_mod]))
 refine fp HF 2 11 [(75, vI (IntKind.i64.wrap (Int.tdiv ((b.body.length + 12 : Nat) : Int) 16777216)))] fun a HF => ?_
 replace HF := HF.sp 75 (vI ((b.body.length + 12) / 16777216 : Nat)) rfl (qdz .i64 16777216 (by show _ ≤ 9223372036854775807; omega))
 refine fp HF 1 13 [(76, vB (IntKind.u8.wrap (((b.body.length + 12) / 16777216 : Nat) : Int)))] fun a HF => ?_
 replace HF := HF.sp 76 (vB (((b.body.length + 12) / 16777216) % 256 : Nat)) rfl (qcg ((b.body.length + 12) / 16777216))
 refine fp HF 1 14 [(77, vP g1 0)] fun a HF => ?_
 refine fy HF HM 15 rfl rfl rfl (v := vB b.kind) (Yl.qh rfl rfl (by kernel_rfl) (fun _ h => h.cell (i := 1) rfl (rfl))) fun a HF => ?_
 refine fo HF 16 rfl rfl ?_
 refine zp HF HM (vs := [(0, vB ((b.body.length + 12) % 256 : Nat)), (1, vB (((b.body.length + 12) / 256) % 256 : Nat)), (2, vB (((b.body.length + 12) / 65536) % 256 : Nat)), (3, vB (((b.body.length + 12) / 16777216) % 256 : Nat)), (4, vB 113), (5, vB 116), (6, vB 1), (7, vB b.kind)]) (cs := #[vB ((b.body.length + 12) % 256 : Nat), vB (((b.body.length + 12) / 256) % 256 : Nat), vB (((b.body.length + 12) / 65536) % 256 : Nat), vB (((b.body.length + 12) / 16777216) % 256 : Nat), vB 113, vB 116, vB 1, vB b.kind]) rfl ei_u8 (by decide) rfl (by kernel_rfl) rfl (by decide) ?_
 clear HF HM; intro a w79 g79 HF HM
 refine fp HF 1 17 [(8, vS g79 8 8)] fun a HF => ?_
 refine qb rfl (wp_seq (qa ?_))
 refine fp HF 2 0 [(81, .slice Ax b.body.length cx), (80, vS g79 8 8)] fun a HF => ?_
 refine fo HF 2 rfl rfl ?_
 replace HM := HM.blkRow (i := 0) (n := 8) (size := 1) rfl rfl (by decide)
 refine qz HF HM (i := 0) rfl ei_u8 rfl rfl rfl (news := (b.body.map B8)) (HM.rd (i := 1) rfl) (qbp _) (by omega) (by omega) rfl (by decide) ?_
 clear HF HM; intro a w82 A82 c82 HF HM hc82
 refine fp HF 1 3 [(2, .slice A82 (8 + b.body.length) c82)] fun a HF => ?_
 refine qb rfl ?_
 have hnA82 : 8 + b.body.length = b.raw.length := by rw [qcv]
 replace HM := HM.reRow (i := 0) (ys := b.raw.map B8) rfl hnA82 (raw10 b)
 rw [hnA82] at hc82
 replace HF := HF.as (t := 2) (u := .slice A82 b.raw.length c82) rfl (by rw [hnA82])
 replace HF := HF.as (t := 82) (u := .slice A82 b.raw.length c82) rfl (by rw [hnA82])
 refine wp_ret ?_
 exact ret1 rfl HF (.tmp HF rfl) (⟨⟨_, _, rfl, HM.own (i := 0) rfl, hc82⟩, HM.below⟩)
theorem qmg (b : Bk) (hok : b.Ok) (A : Option Addr) (c : Nat) (w : World) (hr : Rd w w.heap.size 11 A b.evs.length (b.evs.flatMap evL)) (hn : b.evs.length ≤ 1000000) :
    Calls Tryd.prog 50 #[.agg (b.cells A c)] w (Is w (.int .i64 (b.err : Int))) := by
 refine qg (vs := [.agg (b.cells A c)]) Tryd.func50 rfl rfl (by kernel_rfl) (σ0 := [(0, .agg (b.cells A c))]) rfl ?_
 intro a HF
 have HM := Mem.start w
 refine wp_seq (qa ?_)
 refine fo HF 0 rfl rfl ?_
 refine e_box HF HM (cs := (b.cells A c)) rfl rfl rfl rfl (by decide) ?_
 clear HF HM; intro a w1 g1 HF HM
 refine fp HF 1 1 [(2, vI 0)] fun a HF => ?_
 refine qb rfl (wp_seq (wp_seq (qa ?_)))
 refine fy HF HM 0 rfl rfl rfl (v := .agg (b.cells A c)) (Yl.zl rfl rfl qcj rfl (fun _ h => qf (h.blk (i := 0) rfl))) fun a HF => ?_
 refine fo HF 1 rfl rfl ?_
 refine e_is HF HM [.agg (b.cells A c)] (.bool b.fits) rfl rfl (qos b hok A c _ (HM.old hr) hn) fun w4 hbw HM a HF => ?_
 refine fp HF 1 2 [(5, .bool (!b.fits))] fun a HF => ?_
 refine qb rfl ?_
 rcases HF.tf 5 rfl with ⟨hb5, HF⟩ | ⟨hb5, HF⟩
 ·
  have hf : b.fits = false := by simpa using hb5
  refine qe HF rfl (wp_seq (qa ?_))
  refine fp HF 1 0 [(2, vI 107)] fun a HF => ?_
  refine qb rfl (wp_ret ?_)
  exact ret1 rfl HF (.tmp HF rfl) (⟨by rw [show b.err = 107 from by unfold Bk.err; rw [if_pos hf]]; rfl, HM.below⟩)
 have hf : b.fits = true := by simpa using hb5
 refine qd HF rfl (wp_skip (wp_seq (wp_seq (qa ?_))))
 refine fy HF HM 0 rfl rfl rfl (v := .agg (b.cells A c)) (Yl.zl rfl rfl qcj rfl (fun _ h => qf (h.blk (i := 0) rfl))) fun a HF => ?_
 refine fo HF 1 rfl rfl ?_
 refine e_cl HF [.agg (b.cells A c)] rfl rfl (qmf b (hok) A c _ (HM.old hr) (hn) (hf)) ?_
 rintro _ w7 ⟨⟨A7, c7, rfl, ho, hc7⟩, hbw⟩
 refine ⟨_, rfl, ?_⟩
 replace HM := HM.callRow hbw ho
 clear HF; intro a HF
 have hrw7 := qcv b
 have hbl7 := qb8 b
 refine fy HF HM 2 rfl rfl rfl (Yl.len rfl rfl (by kernel_rfl)) fun a HF => ?_
 refine fp HF 1 3 [(9, vI (IntKind.i64.wrap ((((b.raw).length : Nat) : Int) + 4)))] fun a HF => ?_
 replace HF := HF.sp 9 (vI ((b.raw).length + 4 : Nat)) rfl (qo (by omega) (by omega))
 refine fp HF 1 4 [(10, .bool (decide ((((b.raw).length + 4 : Nat) : Int) > (4096 : Int))))] fun a HF => ?_
 refine qb rfl ?_
 rcases HF.tf 10 rfl with ⟨hb10, HF⟩ | ⟨hb10, HF⟩
 ·
  have hd10 := of_decide_eq_true hb10
  refine qe HF rfl (wp_seq (qa ?_))
  refine fp HF 1 0 [(2, vI 3)] fun a HF => ?_
  refine qb rfl (wp_ret ?_)
  replace HM := HM.picks (fs' := [.blk g1 (b.cells A c) 114]) [1] (by decide) rfl
  exact ret1 rfl HF (.tmp HF rfl) (⟨by rw [show b.err = 3 from by unfold Bk.err; rw [if_neg (by rw [hf]; decide), if_pos (by omega)]]; rfl, HM.below⟩)
 have hd10 := of_decide_eq_false hb10
 refine qd HF rfl (wp_skip (wp_seq (qa ?_)))
 refine fp HF 1 0 [(2, vI 0)] fun a HF => ?_
 refine qb rfl (wp_ret ?_)
 replace HM := HM.picks (fs' := [.blk g1 (b.cells A c) 114]) [1] (by decide) rfl
 exact ret1 rfl HF (.tmp HF rfl) (⟨by rw [show b.err = 0 from by unfold Bk.err; rw [if_neg (by rw [hf]; decide), if_neg (by omega)]]; rfl, HM.below⟩)
theorem qto {b d : Bk} (h1 : b.kind = d.kind) (h2 : b.cpu = d.cpu) (h3 : b.lost = d.lost) (h4 : b.next = d.next) (h5 : b.evs.length = d.evs.length) (h : ∀ i, i < b.evs.length → b.evs.getD i Ev.zero = d.evs.getD i Ev.zero) : b = d := by
 have he : b.evs = d.evs := by
  apply List.ext_getElem h5
  intro i hi hj
  have := h i hi
  rwa [List.getD_eq_getElem?_getD, List.getD_eq_getElem?_getD, List.getElem?_eq_getElem hi, List.getElem?_eq_getElem hj] at this
 cases b; cases d
 simp only at h1 h2 h3 h4 he
 subst h1; subst h2; subst h3; subst h4; subst he
 rfl
theorem qfd {b d : Bk} (h : b.kind ≠ d.kind ∨ b.cpu ≠ d.cpu ∨ b.lost ≠ d.lost ∨ b.next ≠ d.next ∨ b.evs.length ≠ d.evs.length) : ¬ b = d := by
 rintro rfl
 omega
theorem qox (b d : Bk) (A A2 : Option Addr) (c c2 : Nat) (w : World) (hr : Rd w w.heap.size 11 A b.evs.length (b.evs.flatMap evL)) (hr2 : Rd w w.heap.size 11 A2 d.evs.length (d.evs.flatMap evL)) (hn : b.evs.length ≤ 1000000) :
    Calls Tryd.prog 51 #[.agg (b.cells A c), .agg (d.cells A2 c2)] w (Is w (.bool (decide (b = d)))) := by
 refine qg (vs := [.agg (b.cells A c), .agg (d.cells A2 c2)]) Tryd.func51 rfl rfl (by kernel_rfl) (σ0 := [(0, .agg (b.cells A c)), (1, .agg (d.cells A2 c2))]) rfl ?_
 intro a HF
 have HM := Mem.start w
 refine wp_seq (qa ?_)
 refine fo HF 0 rfl rfl ?_
 refine e_box HF HM (cs := (b.cells A c)) rfl rfl rfl rfl (by decide) ?_
 clear HF HM; intro a w2 g2 HF HM
 refine fo HF 1 rfl rfl ?_
 refine e_box HF HM (cs := (d.cells A2 c2)) rfl rfl rfl rfl (by decide) ?_
 clear HF HM; intro a w3 g3 HF HM
 refine fp HF 1 2 [(4, .bool false)] fun a HF => ?_
 refine qb rfl (wp_seq (wp_seq (qa ?_)))
 refine fp HF 1 0 [(6, vP g2 0)] fun a HF => ?_
 refine fy HF HM 1 rfl rfl rfl (v := vB b.kind) (Yl.qh rfl rfl (by kernel_rfl) (fun _ h => h.cell (i := 1) rfl (rfl))) fun a HF => ?_
 refine fp HF 1 2 [(8, vP g3 0)] fun a HF => ?_
 refine fy HF HM 3 rfl rfl rfl (v := vB d.kind) (Yl.qh rfl rfl (by kernel_rfl) (fun _ h => h.cell (i := 0) rfl (rfl))) fun a HF => ?_
 refine fp HF 2 4 [(11, .bool ((b.kind : Int) != (d.kind : Int)))] fun a HF => ?_
 rcases HF.tf 11 rfl with ⟨hb11, HF⟩ | ⟨hb11, HF⟩
 ·
  have hd11 := bne_iff_ne.1 hb11
  refine fp HF 29 6 [(40, .bool true)] fun a HF => ?_
  refine qb rfl (qe HF rfl (wp_seq (qa ?_)))
  refine fp HF 1 0 [(4, .bool false)] fun a HF => ?_
  refine qb rfl (wp_ret ?_)
  exact ret1 rfl HF (.tmp HF rfl) (⟨by rw [decide_eq_false (qfd (by omega))], HM.below⟩)
 have hd11 := bne_eq_false_iff_eq.1 hb11
 refine fp HF 1 6 [(12, vP g2 1)] fun a HF => ?_
 refine fy HF HM 7 rfl rfl rfl (v := vB b.cpu) (Yl.qh rfl rfl (by kernel_rfl) (fun _ h => h.cell (i := 1) rfl (rfl))) fun a HF => ?_
 refine fp HF 1 8 [(14, vP g3 1)] fun a HF => ?_
 refine fy HF HM 9 rfl rfl rfl (v := vB d.cpu) (Yl.qh rfl rfl (by kernel_rfl) (fun _ h => h.cell (i := 0) rfl (rfl))) fun a HF => ?_
 refine fp HF 3 10 [(18, .bool ((b.cpu : Int) != (d.cpu : Int)))] fun a HF => ?_
 rcases HF.tf 18 rfl with ⟨hb18, HF⟩ | ⟨hb18, HF⟩
 ·
  have hd18 := bne_iff_ne.1 hb18
  refine fp HF 22 13 [(40, .bool true)] fun a HF => ?_
  refine qb rfl (qe HF rfl (wp_seq (qa ?_)))
  refine fp HF 1 0 [(4, .bool false)] fun a HF => ?_
  refine qb rfl (wp_ret ?_)
  exact ret1 rfl HF (.tmp HF rfl) (⟨by rw [decide_eq_false (qfd (by omega))], HM.below⟩)
 have hd18 := bne_eq_false_iff_eq.1 hb18
 refine fp HF 1 13 [(19, vP g2 2)] fun a HF => ?_
 refine fy HF HM 14 rfl rfl rfl (v := vI b.lost) (Yl.qh rfl rfl (by kernel_rfl) (fun _ h => h.cell (i := 1) rfl (rfl))) fun a HF => ?_
 refine fp HF 1 15 [(21, vP g3 2)] fun a HF => ?_
 refine fy HF HM 16 rfl rfl rfl (v := vI d.lost) (Yl.qh rfl rfl (by kernel_rfl) (fun _ h => h.cell (i := 0) rfl (rfl))) fun a HF => ?_
 refine fp HF 3 17 [(25, .bool ((b.lost : Int) != (d.lost : Int)))] fun a HF => ?_
 rcases HF.tf 25 rfl with ⟨hb25, HF⟩ | ⟨hb25, HF⟩
 ·
  have hd25 := bne_iff_ne.1 hb25
  refine fp HF 15 20 [(40, .bool true)] fun a HF => ?_
  refine qb rfl (qe HF rfl (wp_seq (qa ?_)))
  refine fp HF 1 0 [(4, .bool false)] fun a HF => ?_
  refine qb rfl (wp_ret ?_)
  exact ret1 rfl HF (.tmp HF rfl) (⟨by rw [decide_eq_false (qfd (by omega))], HM.below⟩)
 have hd25 := bne_eq_false_iff_eq.1 hb25
 refine fp HF 1 20 [(26, vP g2 3)] fun a HF => ?_
 refine fy HF HM 21 rfl rfl rfl (v := vI b.next) (Yl.qh rfl rfl (by kernel_rfl) (fun _ h => h.cell (i := 1) rfl (rfl))) fun a HF => ?_
 refine fp HF 1 22 [(28, vP g3 3)] fun a HF => ?_
 refine fy HF HM 23 rfl rfl rfl (v := vI d.next) (Yl.qh rfl rfl (by kernel_rfl) (fun _ h => h.cell (i := 0) rfl (rfl))) fun a HF => ?_
 refine fp HF 3 24 [(32, .bool ((b.next : Int) != (d.next : Int)))] fun a HF => ?_
 rcases HF.tf 32 rfl with ⟨hb32, HF⟩ | ⟨hb32, HF⟩
 ·
  have hd32 := bne_iff_ne.1 hb32
  refine fp HF 8 27 [(40, .bool true)] fun a HF => ?_
  refine qb rfl (qe HF rfl (wp_seq (qa ?_)))
  refine fp HF 1 0 [(4, .bool false)] fun a HF => ?_
  refine qb rfl (wp_ret ?_)
  exact ret1 rfl HF (.tmp HF rfl) (⟨by rw [decide_eq_false (qfd (by omega))], HM.below⟩)
 have hd32 := bne_eq_false_iff_eq.1 hb32
 refine fp HF 1 27 [(33, vP g2 4)] fun a HF => ?_
 refine fy HF HM 28 rfl rfl rfl (v := .slice A b.evs.length c) (Yl.qh rfl rfl (by kernel_rfl) (fun _ h => h.cell (i := 1) rfl (rfl))) fun a HF => ?_
 refine fy HF HM 29 rfl rfl rfl (Yl.len rfl rfl (by kernel_rfl)) fun a HF => ?_
 refine fp HF 1 30 [(36, vP g3 4)] fun a HF => ?_
 refine fy HF HM 31 rfl rfl rfl (v := .slice A2 d.evs.length c2) (Yl.qh rfl rfl (by kernel_rfl) (fun _ h => h.cell (i := 0) rfl (rfl))) fun a HF => ?_
 refine fy HF HM 32 rfl rfl rfl (Yl.len rfl rfl (by kernel_rfl)) fun a HF => ?_
 refine fp HF 2 33 [(40, .bool ((b.evs.length : Int) != (d.evs.length : Int)))] fun a HF => ?_
 refine qb rfl ?_
 rcases HF.tf 40 rfl with ⟨hb40, HF⟩ | ⟨hb40, HF⟩
 ·
  have hd40 := bne_iff_ne.1 hb40
  refine qe HF rfl (wp_seq (qa ?_))
  refine fp HF 1 0 [(4, .bool false)] fun a HF => ?_
  refine qb rfl (wp_ret ?_)
  exact ret1 rfl HF (.tmp HF rfl) (⟨by rw [decide_eq_false (qfd (by omega))], HM.below⟩)
 have hd40 := bne_eq_false_iff_eq.1 hb40
 refine qd HF rfl (wp_skip (wp_seq (wp_seq (qa ?_))))
 refine fp HF 1 0 [(5, vI 0)] fun a HF => ?_
 refine qb rfl (wp_block ?_)
 refine qs (fun mS aS wS => ∃ (k : Nat), (k ≤ b.evs.length) ∧ (∀ i, i < k → b.evs.getD i Ev.zero = d.evs.getD i Ev.zero) ∧ mS = b.evs.length - k ∧ Fr aS 59 [] [(5, vI k), (40, .bool false), (4, .bool false), (3, vP g3 0), (2, vP g2 0)] ∧ Mem w wS [.blk g3 (d.cells A2 c2) 114, .blk g2 (b.cells A c) 114]) (m := b.evs.length - 0) ⟨0, Nat.zero_le _, fun i hi => absurd hi (Nat.not_lt_zero _), rfl, HF.sub (by kernel_rfl), HM.picks [0, 1] (by decide) rfl⟩ ?_
 clear HF HM; rintro mS a w_ ⟨k, hk, hall, rfl, HF, HM⟩
 refine wp_seq (wp_seq (qa ?_))
 refine fp HF 2 0 [(42, vP g2 4), (41, vI k)] fun a HF => ?_
 refine fy HF HM 2 rfl rfl rfl (v := .slice A b.evs.length c) (Yl.qh rfl rfl (by kernel_rfl) (fun _ h => h.cell (i := 1) rfl (rfl))) fun a HF => ?_
 refine fy HF HM 3 rfl rfl rfl (Yl.len rfl rfl (by kernel_rfl)) fun a HF => ?_
 refine fp HF 1 4 [(45, .bool (decide ((k : Int) < (b.evs.length : Int))))] fun a HF => ?_
 refine qb rfl ?_
 rcases HF.tf 45 rfl with ⟨hb45, HF⟩ | ⟨hb45, HF⟩
 ·
  have hd45 := of_decide_eq_true hb45
  have hk45 : k < b.evs.length := by omega
  refine qe HF rfl (wp_skip (wp_seq (wp_block (wp_seq ?_))))
  refine qac HM [.blk g3 (d.cells A2 c2) 114, .blk g2 (b.cells A c) 114] [0, 1] [] fun HM HS => ?_
  refine ap HF (fun _ => HS) [0, 2, 5, 7] #[true, false, true, false, false, true, false, true, false, false, false] [(55, vI k), (53, vP g3 4), (50, vI k), (48, vP g2 4)] fun a HF => ?_
  refine ay HF HS 1 rfl rfl rfl (v := .slice A b.evs.length c) (Yl.qh rfl rfl (by kernel_rfl) (fun _ h => h.cell (i := 1) rfl (rfl))) fun a HF => ?_
  obtain ⟨gA, oA, rfl, _⟩ := hr.zm (Nat.lt_of_le_of_lt (Nat.zero_le _) (show k < b.evs.length from by omega)) (by decide)
  refine ay HF HS 3 rfl rfl rfl (v := vP gA (oA + k * 11)) (Yl.ix gA oA k 11 rfl rfl rfl) fun a HF => ?_
  refine ay HF HS 4 rfl rfl rfl (v := .agg ((b.evs.getD k Ev.zero).cells)) (Yl.zl rfl rfl ⟨(by kernel_rfl), (by kernel_rfl)⟩ rfl (fun _ h => (h.old hr).qad qy ((getD_at Ev.zero (k := k) (by first | omega | (simp; omega)))))) fun a HF => ?_
  refine ay HF HS 6 rfl rfl rfl (v := .slice A2 d.evs.length c2) (Yl.qh rfl rfl (by kernel_rfl) (fun _ h => h.cell (i := 0) rfl (rfl))) fun a HF => ?_
  obtain ⟨gA2, oA2, rfl, _⟩ := hr2.zm (Nat.lt_of_le_of_lt (Nat.zero_le _) (show k < d.evs.length from by omega)) (by decide)
  refine ay HF HS 8 rfl rfl rfl (v := vP gA2 (oA2 + k * 11)) (Yl.ix gA2 oA2 k 11 rfl rfl rfl) fun a HF => ?_
  refine ay HF HS 9 rfl rfl rfl (v := .agg ((d.evs.getD k Ev.zero).cells)) (Yl.zl rfl rfl ⟨(by kernel_rfl), (by kernel_rfl)⟩ rfl (fun _ h => (h.old hr2).qad qy ((getD_at Ev.zero (k := k) (by first | omega | (simp; omega)))))) fun a HF => ?_
  refine ay HF HS 10 rfl rfl rfl (v := .bool (!(decide ((b.evs.getD k Ev.zero) = (d.evs.getD k Ev.zero))))) (Yl.qwy (x := (b.evs.getD k Ev.zero)) (y := (d.evs.getD k Ev.zero)) rfl rfl rfl (by kernel_rfl)) fun a HF => ?_
  refine ql (by kernel_rfl) ?_
  rcases HF.tf 58 rfl with ⟨hb58, HF⟩ | ⟨hb58, HF⟩
  ·
   refine qe HF rfl (wp_seq (qa ?_))
   refine fp HF 1 0 [(4, .bool false)] fun a HF => ?_
   refine qb rfl (wp_ret ?_)
   exact ret1 rfl HF (.tmp HF rfl) (⟨by rw [decide_eq_false (fun h => by rw [h] at hb58; simp at hb58)], HM.below⟩)
  refine qd HF rfl (wp_skip (qa ?_))
  refine fp HF 2 0 [(47, vI (IntKind.i64.wrap ((k : Int) + 1)))] fun a HF => ?_
  replace HF := HF.sp 47 (vI (k + 1 : Nat)) rfl (qo (by omega) (by omega))
  refine fp HF 1 2 [(5, vI (k + 1 : Nat))] fun a HF => ?_
  refine qb rfl ?_
  exact ⟨_, (by omega), k + 1, by omega, fun i hi => (Nat.lt_succ_iff_lt_or_eq.1 hi).elim (hall i) (fun h => by subst h; simpa using hb58), rfl, HF.sub (by kernel_rfl), HM.picks [0, 1] (by decide) rfl⟩
 have hd45 := of_decide_eq_false hb45
 refine qd HF rfl (wp_exit (wp_seq (qa ?_)))
 refine fp HF 1 0 [(4, .bool true)] fun a HF => ?_
 refine qb rfl (wp_ret ?_)
 exact ret1 rfl HF (.tmp HF rfl) (⟨by rw [decide_eq_true (qto (by omega) (by omega) (by omega) (by omega) (by omega) (fun i hi => hall i (by omega)))], HM.below⟩)
theorem qhk (cpu : Nat) (A : Option Addr) (n c : Nat) (l : List It) (opn : Int) (k : Nat) (hG : GoodI cpu l opn) (hk : k ≤ n) (w : World) (hr : Rd w w.heap.size 12 A n (l.flatMap itL)) (hln : l.length = n) (hn : n ≤ 1000000) :
    Calls Tryd.prog 49 #[.int .u8 (cpu : Int), .slice A n c, .int .i64 opn, .int .i64 (k : Int)] w (quf w (ofB cpu l opn k)) := by
 refine qg (vs := [vB cpu, .slice A n c, vI opn, vI k]) Tryd.func49 rfl rfl (by kernel_rfl) (σ0 := [(0, vB cpu), (1, .slice A n c), (2, vI opn), (3, vI k)]) rfl ?_
 intro a HF
 have HM := Mem.start w
 refine wp_seq (qa ?_)
 refine fo HF 0 rfl rfl ?_
 refine qq HF HM (cs := #[vB 0, vB 0, vI 0, vI 0, .slice none 0 0]) rfl (by kernel_rfl) rfl (by decide) ?_
 clear HF HM; intro a w8 g8 HF HM
 refine qb rfl (wp_seq (qa ?_))
 refine fp HF 1 0 [(11, vB cpu)] fun a HF => ?_
 refine fy HF HM 1 rfl rfl rfl (v := .agg #[vB 1, vB cpu, vI 0, vI 0, .slice none 0 0]) (Yl.build (vs := [(0, vB 1), (1, vB cpu)]) rfl (by kernel_rfl) (by kernel_rfl)) fun a HF => ?_
 refine fo HF 2 rfl rfl ?_
 refine qq HF HM (cs := #[vB 0, vB 0, vI 0, vI 0, .slice none 0 0]) rfl (by kernel_rfl) rfl (by decide) ?_
 clear HF HM; intro a w9 g9 HF HM
 refine fo HF 3 rfl rfl ?_
 refine e_sa HF HM 0 rfl rfl rfl rfl rfl qcj rfl rfl (by simp [Value.oneCell']) ?_
 clear HM; intro w1_3 HM
 refine qb rfl ?_
 replace HM := HM.nil 117 11
 refine wp_seq (wp_seq (qa ?_))
 refine fp HF 1 0 [(10, vI 0)] fun a HF => ?_
 refine qb rfl (wp_block ?_)
 refine qs (fun mS aS wS => ∃ (j : Nat) (Aj : Option Addr) (cj : Nat), (j ≤ k) ∧ (j ≤ cj) ∧ mS = k - j ∧ Fr aS 47 [] [(10, vI j), (9, vP g9 0), (8, vP g8 0), (1, .slice A n c), (2, vI opn), (3, vI k)] ∧ Mem w wS [.row (.slice Aj j cj) j ((evsI (l.take j)).flatMap evL) 117 11, .blk g9 #[vB 1, vB cpu, vI (sumI (befI (l.take j))), vI 0, .slice Aj j cj] 114, .blk g8 #[vB 0, vB 0, vI 0, vI 0, .slice none 0 0] 114]) (m := k - 0) ⟨0, none, 0, Nat.zero_le _, Nat.le_refl _, rfl, HF.sub (by kernel_rfl), HM.picks [0, 1, 2] (by decide) rfl⟩ ?_
 clear HF HM; rintro mS a w_ ⟨j, Aj, cj, hj, hcj, rfl, HF, HM⟩
 refine wp_seq (wp_seq (qa ?_))
 refine fp HF 3 0 [(15, .bool (decide ((j : Int) < (k : Int))))] fun a HF => ?_
 refine qb rfl ?_
 rcases HF.tf 15 rfl with ⟨hb15, HF⟩ | ⟨hb15, HF⟩
 ·
  have hd15 := of_decide_eq_true hb15
  have hj15 : j < k := by omega
  have ho0 := hG.o0
  have hp0 := hG.part j
  have hp1 := hG.part (j + 1)
  have hps := qrk (l := l) (j := j) (by omega)
  refine qe HF rfl (wp_skip (wp_seq (wp_block (wp_seq ?_))))
  refine qac HM [.blk g9 #[vB 1, vB cpu, vI (sumI (befI (l.take j))), vI 0, .slice Aj j cj] 114, .blk g8 #[vB 0, vB 0, vI 0, vI 0, .slice none 0 0] 114] [1, 2] [10] fun HM HS => ?_
  refine ap HF (fun _ => HS) [0, 2, 3] #[true, false, true, true, false, false, false, false, false, false, false] [(21, vI j), (20, .slice A n c), (18, vP g9 4)] fun a HF => ?_
  refine ay HF HS 1 rfl rfl rfl (Yl.qh rfl rfl (by kernel_rfl) (fun _ h => h.cell (i := 0) rfl rfl)) fun a HF => ?_
  obtain ⟨gA, oA, rfl, _⟩ := hr.zm (Nat.lt_of_le_of_lt (Nat.zero_le _) (show j < n from by omega)) (by decide)
  refine ay HF HS 4 rfl rfl rfl (v := vP gA (oA + j * 12)) (Yl.ix gA oA j 12 rfl rfl rfl) fun a HF => ?_
  refine ap HF (fun _ => HS) [5] #[true, true, true, true, true, true, false, false, false, false, false] [(23, vP gA (oA + j * 12))] fun a HF => ?_
  refine ay HF HS 6 rfl rfl rfl (v := .agg ((l.getD j It.zero).e.cells)) (Yl.zl rfl rfl ⟨(by kernel_rfl), (by kernel_rfl)⟩ rfl (fun _ h => (h.old hr).qwu qab (k := j) (j := 0) (m := 11) (x := (l.getD j It.zero)) ((getD_at It.zero (k := j) (by first | omega | (simp; omega)))) rfl)) fun a HF => ?_
  refine qj [7] (by kernel_rfl) rfl ?_
  refine all_cons ?_ all_nil
  refine qn HF (i := 7) rfl rfl ?_
  refine zp HF HM (vs := [(0, .agg ((l.getD j It.zero).e.cells))]) (cs := (l.getD j It.zero).e.cells) rfl qip (by decide) rfl (by kernel_rfl) rfl (by decide) ?_
  clear HF HM; intro a w25 g25 HF HM
  refine keepS (HM.picks [2, 3] (by decide) rfl) (fun HS => ?_)
  refine qj [8] (by kernel_rfl) rfl ?_
  refine all_cons ?_ all_nil
  refine qn HF (i := 8) rfl rfl ?_
  refine qz HF HM (i := 1) rfl qip rfl rfl rfl (news := (evL (l.getD j It.zero).e)) (HM.rdBlk (i := 0) (n := 1) (size := 11) rfl rfl) (qaf _) (by omega) (by omega) rfl (by decide) ?_
  clear HF HM; intro a w26 A26 c26 HF HM hc26
  rw [show ((evsI (l.take j)).flatMap evL) ++ (evL (l.getD j It.zero).e) = (evsI (l.take (j + 1))).flatMap evL from by rw [qfz (by omega)]] at HM
  refine keepS (HM.picks [2, 3] (by decide) rfl) (fun HS => ?_)
  refine ap HF (fun _ => HS) [9] #[true, true, true, true, true, true, true, true, true, true, false] [(27, vP g9 4)] fun a HF => ?_
  refine qj [10] (by kernel_rfl) rfl ?_
  refine all_cons ?_ all_nil
  refine qn HF (i := 10) rfl rfl ?_
  refine zb HF HM (i := 2) (cs := #[vB 1, vB cpu, vI (sumI (befI (l.take j))), vI 0, .slice Aj j cj]) rfl rfl rfl rfl (by kernel_rfl) rfl rfl (by simp) ?_
  clear HM; intro w5_10 HM
  refine noS (by kernel_rfl) ?_
  refine ql (by kernel_rfl) ?_
  refine qac HM [.blk g25 ((l.getD j It.zero).e.cells) 117, .row (.slice A26 (j + 1) c26) (j + 1) ((evsI (l.take (j + 1))).flatMap evL) 117 11, .blk g9 #[vB 1, vB cpu, vI (sumI (befI (l.take j))), vI 0, .slice A26 (j + 1) c26] 114, .blk g8 #[vB 0, vB 0, vI 0, vI 0, .slice none 0 0] 114] [0, 1, 2, 3] [9] fun HM HS => ?_
  refine ap HF (fun _ => HS) [0, 2, 3] #[true, false, true, true, false, false, false, false, false, false] [(31, vI j), (30, .slice (some ⟨gA, oA, none⟩) n c), (28, vP g9 2)] fun a HF => ?_
  refine ay HF HS 1 rfl rfl rfl (Yl.qh rfl rfl (by kernel_rfl) (fun _ h => h.cell (i := 2) rfl rfl)) fun a HF => ?_
  refine ay HF HS 4 rfl rfl rfl (v := vP gA (oA + j * 12)) (Yl.ix gA oA j 12 rfl rfl rfl) fun a HF => ?_
  refine ap HF (fun _ => HS) [5] #[true, true, true, true, true, true, false, false, false, false] [(33, vP gA (oA + j * 12 + 11))] fun a HF => ?_
  refine ay HF HS 6 rfl rfl rfl (v := vI ((l.getD j It.zero).before)) (Yl.qh rfl rfl (by kernel_rfl) (fun _ h => (h.old hr).partAt qab (k := j) (j := 11) (x := (l.getD j It.zero)) ((getD_at It.zero (k := j) (by first | omega | (simp; omega)))) rfl)) fun a HF => ?_
  refine zg HF (fun _ => HS) (i := 7) rfl rfl (d := 35) rfl (by decide) (by kernel_rfl) (fun _ _ _ h => h) (v := vI (IntKind.i64.wrap ((sumI (befI (l.take j))) + ((l.getD j It.zero).before)))) (fun _ => Yl.pure (by kernel_rfl)) fun a HF => ?_
  replace HF := HF.sp 35 (vI (sumI (befI (l.take (j + 1))))) rfl (by rw [hps]; exact qf8 ⟨by omega, by omega⟩)
  refine ap HF (fun _ => HS) [8] #[true, true, true, true, true, true, true, true, true, false] [(36, vP g9 2)] fun a HF => ?_
  refine qj [9] (by kernel_rfl) rfl ?_
  refine all_cons ?_ all_nil
  refine qn HF (i := 9) rfl rfl ?_
  refine zb HF HM (i := 2) (cs := #[vB 1, vB cpu, vI (sumI (befI (l.take j))), vI 0, .slice A26 (j + 1) c26]) rfl rfl rfl rfl (by kernel_rfl) rfl rfl (by simp) ?_
  clear HM; intro w6_9 HM
  refine noS (by kernel_rfl) ?_
  refine ql (by kernel_rfl) ?_
  refine qa ?_
  refine fp HF 2 0 [(17, vI (IntKind.i64.wrap ((j : Int) + 1)))] fun a HF => ?_
  replace HF := HF.sp 17 (vI (j + 1 : Nat)) rfl (qo (by omega) (by omega))
  refine fp HF 1 2 [(10, vI (j + 1 : Nat))] fun a HF => ?_
  refine qb rfl ?_
  exact ⟨_, (by omega), j + 1, A26, c26, by omega, hc26, rfl, HF.sub (by kernel_rfl), HM.picks [1, 2, 3] (by decide) rfl⟩
 have hd15 := of_decide_eq_false hb15
 obtain rfl : j = k := by omega
 have hp0 := hG.part j
 have ho0 := hG.o0
 refine qd HF rfl (wp_exit (wp_seq (wp_seq (qa ?_))))
 refine fp HF 2 0 [(38, .slice A n c), (37, vI j)] fun a HF => ?_
 refine fy HF HM 2 rfl rfl rfl (Yl.len rfl rfl (by kernel_rfl)) fun a HF => ?_
 refine fp HF 1 3 [(40, .bool ((j : Int) == (n : Int)))] fun a HF => ?_
 refine qb rfl ?_
 rcases HF.tf 40 rfl with ⟨hb40, HF⟩ | ⟨hb40, HF⟩
 ·
  have hd40 := eq_of_beq hb40
  have hlo := qrl (cpu := cpu) (opn := opn) (l := l) (k := j) (by omega)
  refine qe HF rfl (qa ?_)
  refine fp HF 1 0 [(41, vP g9 2)] fun a HF => ?_
  refine fy HF HM 1 rfl rfl rfl (Yl.qh rfl rfl (by kernel_rfl) (fun _ h => h.cell (i := 1) rfl rfl)) fun a HF => ?_
  refine fp HF 2 2 [(44, vI (IntKind.i64.wrap ((sumI (befI (l.take j))) + opn)))] fun a HF => ?_
  replace HF := HF.sp 44 (vI ((sumI (befI (l.take j))) + opn)) rfl (qf8 ⟨by omega, by omega⟩)
  refine fp HF 1 4 [(45, vP g9 2)] fun a HF => ?_
  refine fo HF 5 rfl rfl ?_
  refine zb HF HM (i := 1) (cs := #[vB 1, vB cpu, vI (sumI (befI (l.take j))), vI 0, .slice Aj j cj]) rfl rfl rfl rfl (by kernel_rfl) rfl rfl (by simp) ?_
  clear HM; intro w8_5 HM
  refine qb rfl (wp_seq (qa ?_))
  refine fy HF HM 0 rfl rfl rfl (v := .agg #[vB 1, vB cpu, vI ((sumI (befI (l.take j))) + opn), vI 0, .slice Aj j cj]) (Yl.zl rfl rfl qcj rfl (fun _ h => qf (h.blk (i := 1) rfl))) fun a HF => ?_
  refine fo HF 1 rfl rfl ?_
  refine e_sa HF HM 2 rfl rfl rfl rfl rfl qcj rfl rfl (by simp [Value.oneCell']) ?_
  clear HM; intro w9_1 HM
  refine qb rfl (wp_ret ?_)
  exact ret1 rfl HF (.cellS (i := 2) HF HM rfl rfl qcj rfl) (⟨⟨Aj, cj, by rw [← qfb (by omega) (by rw [hlo])], by rw [qbh (by omega)]; exact HM.own (i := 0) rfl, by rw [qbh (by omega)]; omega⟩, HM.below⟩)
 have hd40 := ne_of_beq_false hb40
 have hlo := qrm (cpu := cpu) (opn := opn) (l := l) (k := j) (by omega)
 refine qd HF rfl (wp_skip (wp_seq (qa ?_)))
 refine fy HF HM 0 rfl rfl rfl (v := .agg #[vB 1, vB cpu, vI (sumI (befI (l.take j))), vI 0, .slice Aj j cj]) (Yl.zl rfl rfl qcj rfl (fun _ h => qf (h.blk (i := 1) rfl))) fun a HF => ?_
 refine fo HF 1 rfl rfl ?_
 refine e_sa HF HM 2 rfl rfl rfl rfl rfl qcj rfl rfl (by simp [Value.oneCell']) ?_
 clear HM; intro w9_1 HM
 refine qb rfl (wp_ret ?_)
 exact ret1 rfl HF (.cellS (i := 2) HF HM rfl rfl qcj rfl) (⟨⟨Aj, cj, by rw [← qfb (by omega) (by rw [hlo])], by rw [qbh (by omega)]; exact HM.own (i := 0) rfl, by rw [qbh (by omega)]; omega⟩, HM.below⟩)
theorem qot (cpu : Nat) (hcpu : cpu < 256) (A : Option Addr) (n c : Nat) (l : List It) (opn limit : Int) (hok : ∀ x ∈ l, x.Ok) (ho : I64 opn) (hlm : I64 limit) (w : World) (hr : Rd w w.heap.size 12 A n (l.flatMap itL)) (hc : n ≤ c) (hln : l.length = n) (hn : n ≤ 1000000) :
    Calls Tryd.prog 29 #[.int .u8 (cpu : Int), .slice A n c, .int .i64 opn, .int .i64 limit] w (qg4 117 114 w (cutS cpu l opn limit).2 (cutS cpu l opn limit).1) := by
 subst hln
 refine qg (vs := [vB cpu, .slice A l.length c, vI opn, vI limit]) Tryd.func29 rfl rfl (by kernel_rfl) (σ0 := [(0, vB cpu), (1, .slice A l.length c), (2, vI opn), (3, vI limit)]) rfl ?_
 intro a HF
 have HM := Mem.start w
 refine wp_seq (qa ?_)
 refine fp HF 2 0 [(9, vI 0), (8, .slice none 0 0)] fun a HF => ?_
 refine qb rfl (wp_seq (wp_seq (qa ?_)))
 refine fp HF 3 0 [(14, .bool (decide ((cpu : Int) > (63 : Int))))] fun a HF => ?_
 rcases HF.tf 14 rfl with ⟨hb14, HF⟩ | ⟨hb14, HF⟩
 ·
  have hd14 := of_decide_eq_true hb14
  refine fp HF 7 3 [(21, .bool true)] fun a HF => ?_
  refine qb rfl (qe HF rfl (wp_seq (qa ?_)))
  refine fp HF 2 0 [(9, vI 2), (8, .slice none 0 0)] fun a HF => ?_
  refine qb rfl (wp_ret ?_)
  exact ret2 rfl HF (.tmp HF rfl) (.tmp HF rfl) (by rw [qd7 (by omega)]; exact qbm HM rfl)
 have hd14 := of_decide_eq_false hb14
 refine fp HF 4 3 [(18, .bool (decide ((limit : Int) < (1 : Int))))] fun a HF => ?_
 rcases HF.tf 18 rfl with ⟨hb18, HF⟩ | ⟨hb18, HF⟩
 ·
  have hd18 := of_decide_eq_true hb18
  refine fp HF 3 7 [(21, .bool true)] fun a HF => ?_
  refine qb rfl (qe HF rfl (wp_seq (qa ?_)))
  refine fp HF 2 0 [(9, vI 2), (8, .slice none 0 0)] fun a HF => ?_
  refine qb rfl (wp_ret ?_)
  exact ret2 rfl HF (.tmp HF rfl) (.tmp HF rfl) (by rw [qd7 (by omega)]; exact qbm HM rfl)
 have hd18 := of_decide_eq_false hb18
 refine fp HF 3 7 [(21, .bool (decide ((limit : Int) > (4096 : Int))))] fun a HF => ?_
 refine qb rfl ?_
 rcases HF.tf 21 rfl with ⟨hb21, HF⟩ | ⟨hb21, HF⟩
 ·
  have hd21 := of_decide_eq_true hb21
  refine qe HF rfl (wp_seq (qa ?_))
  refine fp HF 2 0 [(9, vI 2), (8, .slice none 0 0)] fun a HF => ?_
  refine qb rfl (wp_ret ?_)
  exact ret2 rfl HF (.tmp HF rfl) (.tmp HF rfl) (by rw [qd7 (by omega)]; exact qbm HM rfl)
 have hd21 := of_decide_eq_false hb21
 refine qd HF rfl (wp_skip (wp_seq (wp_seq (qa ?_))))
 refine fp HF 3 0 [(24, vI opn), (23, .slice A l.length c), (22, vB cpu)] fun a HF => ?_
 refine fo HF 3 rfl rfl ?_
 refine e_is HF HM [vB cpu, .slice A l.length c, vI opn] (.bool (qdd cpu l opn)) rfl rfl (qk0 cpu A l.length c l opn hok ho _ (HM.old hr) rfl (by omega)) fun w25 hbw HM a HF => ?_
 refine fp HF 1 4 [(26, .bool (!(qdd cpu l opn)))] fun a HF => ?_
 refine qb rfl ?_
 rcases HF.tf 26 rfl with ⟨hb26, HF⟩ | ⟨hb26, HF⟩
 ·
  have hbad : zr cpu l opn = false := by rw [← qkr (by omega) hok]; simpa using hb26
  refine qe HF rfl (wp_seq (qa ?_))
  refine fp HF 2 0 [(9, vI 110), (8, .slice none 0 0)] fun a HF => ?_
  refine qb rfl (wp_ret ?_)
  exact ret2 rfl HF (.tmp HF rfl) (.tmp HF rfl) (by rw [qim (by omega) hbad]; exact qbm HM rfl)
 have hgood : zr cpu l opn = true := by rw [← qkr (by omega) hok]; simpa using hb26
 have hG := GoodI.of (by omega) hok hgood
 have ho0 := hG.o0
 refine qd HF rfl (wp_skip (wp_seq (qa ?_)))
 refine fp HF 1 0 [(10, .slice none 0 0)] fun a HF => ?_
 refine qb rfl ?_
 obtain ⟨lim, rfl⟩ : ∃ k : Nat, limit = (k : Int) := ⟨limit.toNat, by omega⟩
 replace HM := HM.nil 114 5
 replace HM : Mem w _ (.row (.slice none 0 0) 0 [] 114 5 :: hbF 117 []) := HM
 refine wp_seq (wp_seq (qa ?_))
 refine fp HF 1 0 [(27, .slice A l.length c)] fun a HF => ?_
 refine fy HF HM 1 rfl rfl rfl (Yl.len rfl rfl (by kernel_rfl)) fun a HF => ?_
 refine fp HF 2 2 [(30, .bool ((l.length : Int) == (0 : Int)))] fun a HF => ?_
 rcases HF.tf 30 rfl with ⟨hb30, HF⟩ | ⟨hb30, HF⟩
 ·
  have hd30 := eq_of_beq hb30
  refine fp HF 3 4 [(33, .bool (decide ((opn : Int) > (0 : Int))))] fun a HF => ?_
  refine qb rfl ?_
  rcases HF.tf 33 rfl with ⟨hb33, HF⟩ | ⟨hb33, HF⟩
  ·
   have hd33 := of_decide_eq_true hb33
   refine qe HF rfl (qa ?_)
   refine fp HF 4 0 [(37, vI opn), (36, .slice A l.length c), (35, vB cpu), (34, .slice none 0 0)] fun a HF => ?_
   refine fo HF 4 rfl rfl ?_
   refine e_cl HF [vB cpu, .slice A l.length c, vI opn, vI 0] rfl rfl (qhk cpu A l.length c l opn 0 hG (by omega) _ (HM.old hr) rfl (by omega)) ?_
   rintro _ w38 ⟨⟨A38, c38, rfl, ho, hc38⟩, hbw⟩
   refine ⟨_, rfl, ?_⟩
   replace HM := HM.callRow hbw ho
   clear HF; intro a HF
   refine fo HF 5 rfl rfl ?_
   refine zp HF HM (vs := [(0, .agg ((ofB cpu l opn 0).cells A38 c38))]) (cs := ((ofB cpu l opn 0).cells A38 c38)) rfl qni (by decide) rfl (by kernel_rfl) rfl (by decide) ?_
   clear HF HM; intro a w39 g39 HF HM
   refine fo HF 6 rfl rfl ?_
   refine qz HF HM (i := 2) rfl qni rfl rfl rfl (news := (hbL (⟨ofB cpu l opn 0, A38, c38⟩ : Hb))) (HM.rdBlk (i := 0) (n := 1) (size := 5) rfl rfl) (qbv _ _ _) (by omega) (by omega) rfl (by decide) ?_
   clear HF HM; intro a w40 A40 c40 HF HM hc40
   refine fp HF 1 7 [(10, .slice A40 (0 + 1) c40)] fun a HF => ?_
   refine qb rfl ?_
   have hnA40 : 0 + 1 = (([] : List Hb) ++ [(⟨ofB cpu l opn 0, A38, c38⟩ : Hb)]).length := by rw [List.length_append]; rfl
   replace HM := HM.reRow (i := 2) (ys := (([] : List Hb) ++ [(⟨ofB cpu l opn 0, A38, c38⟩ : Hb)]).flatMap hbL) rfl hnA40 (by rw [List.flatMap_append, List.flatMap_cons, List.flatMap_nil, List.append_nil])
   rw [hnA40] at hc40
   replace HF := HF.as (t := 10) (u := .slice A40 ((([] : List Hb) ++ [(⟨ofB cpu l opn 0, A38, c38⟩ : Hb)]).length) c40) rfl (by rw [hnA40])
   replace HF := HF.as (t := 40) (u := .slice A40 ((([] : List Hb) ++ [(⟨ofB cpu l opn 0, A38, c38⟩ : Hb)]).length) c40) rfl (by rw [hnA40])
   replace HM := Mem.qvj (a := [.blk g39 ((ofB cpu l opn 0).cells A38 c38) 114, .row (.slice A40 ((([] : List Hb) ++ [(⟨ofB cpu l opn 0, A38, c38⟩ : Hb)]).length) c40) ((([] : List Hb) ++ [(⟨ofB cpu l opn 0, A38, c38⟩ : Hb)]).length) ((([] : List Hb) ++ [(⟨ofB cpu l opn 0, A38, c38⟩ : Hb)]).flatMap hbL) 114 5]) (q := ([] : List Hb)) (HM.picksT (fs' := (.row (.slice A38 ((ofB cpu l opn 0).evs.length) c38) ((ofB cpu l opn 0).evs.length) ((ofB cpu l opn 0).evs.flatMap evL) 117 11 :: .blk g39 ((ofB cpu l opn 0).cells A38 c38) 114 :: .row (.slice A40 ((([] : List Hb) ++ [(⟨ofB cpu l opn 0, A38, c38⟩ : Hb)]).length) c40) ((([] : List Hb) ++ [(⟨ofB cpu l opn 0, A38, c38⟩ : Hb)]).length) ((([] : List Hb) ++ [(⟨ofB cpu l opn 0, A38, c38⟩ : Hb)]).flatMap hbL) 114 5 :: hbF 117 [])) 3 [1, 0, 2] (by decide) (by decide) rfl) rfl
   replace HM : Mem w _ (.blk g39 ((ofB cpu l opn 0).cells A38 c38) 114 :: .row (.slice A40 ((([] : List Hb) ++ [(⟨ofB cpu l opn 0, A38, c38⟩ : Hb)]).length) c40) ((([] : List Hb) ++ [(⟨ofB cpu l opn 0, A38, c38⟩ : Hb)]).length) ((([] : List Hb) ++ [(⟨ofB cpu l opn 0, A38, c38⟩ : Hb)]).flatMap hbL) 114 5 :: hbF 117 (([] : List Hb) ++ [(⟨ofB cpu l opn 0, A38, c38⟩ : Hb)])) := HM
   refine wp_seq (wp_block ?_)
   replace HM := HM.picksT (fs' := (.row (.slice A40 ((([] : List Hb) ++ [(⟨ofB cpu l opn 0, A38, c38⟩ : Hb)]).length) c40) ((([] : List Hb) ++ [(⟨ofB cpu l opn 0, A38, c38⟩ : Hb)]).length) ((([] : List Hb) ++ [(⟨ofB cpu l opn 0, A38, c38⟩ : Hb)]).flatMap hbL) 114 5 :: hbF 117 (([] : List Hb) ++ [(⟨ofB cpu l opn 0, A38, c38⟩ : Hb)]))) 2 [1] (by decide) (by decide) rfl
   refine qs (fun mS aS wS => ∃ (z : Nat), mS = 0 + z ∧ Fr aS 71 [] [(40, .slice A40 ((([] : List Hb) ++ [(⟨ofB cpu l opn 0, A38, c38⟩ : Hb)]).length) c40), (10, .slice A40 ((([] : List Hb) ++ [(⟨ofB cpu l opn 0, A38, c38⟩ : Hb)]).length) c40), (33, .bool true), (26, .bool false), (21, .bool false), (9, vI 0), (8, .slice none 0 0), (0, vB cpu), (1, .slice A l.length c), (2, vI opn), (3, vI lim)] ∧ Mem w wS (.row (.slice A40 ((([] : List Hb) ++ [(⟨ofB cpu l opn 0, A38, c38⟩ : Hb)]).length) c40) ((([] : List Hb) ++ [(⟨ofB cpu l opn 0, A38, c38⟩ : Hb)]).length) ((([] : List Hb) ++ [(⟨ofB cpu l opn 0, A38, c38⟩ : Hb)]).flatMap hbL) 114 5 :: hbF 117 (([] : List Hb) ++ [(⟨ofB cpu l opn 0, A38, c38⟩ : Hb)]))) (m := 0 + 0) ⟨0, rfl, HF.sub (by kernel_rfl), HM.picksT 1 [0] (by decide) (by decide) rfl⟩ ?_
   clear HF HM; rintro mS a w_ ⟨z, rfl, HF, HM⟩
   refine wp_seq (wp_seq (qa ?_))
   refine fp HF 1 0 [(41, .slice A l.length c)] fun a HF => ?_
   refine fy HF HM 1 rfl rfl rfl (Yl.len rfl rfl (by kernel_rfl)) fun a HF => ?_
   refine fp HF 1 2 [(43, .bool (decide ((l.length : Int) > (0 : Int))))] fun a HF => ?_
   refine qb rfl ?_
   rcases HF.tf 43 rfl with ⟨hb43, HF⟩ | ⟨hb43, HF⟩
   ·
    have hd43 := of_decide_eq_true hb43
    exfalso; omega
   have hd43 := of_decide_eq_false hb43
   refine qd HF rfl (wp_exit (wp_seq (qa ?_)))
   refine fp HF 3 0 [(9, vI 0), (8, .slice A40 ((([] : List Hb) ++ [(⟨ofB cpu l opn 0, A38, c38⟩ : Hb)]).length) c40)] fun a HF => ?_
   refine qb rfl (wp_ret ?_)
   replace HM := HM.picksT (fs' := (.row (.slice A40 ((([] : List Hb) ++ [(⟨ofB cpu l opn 0, A38, c38⟩ : Hb)]).length) c40) ((([] : List Hb) ++ [(⟨ofB cpu l opn 0, A38, c38⟩ : Hb)]).length) ((([] : List Hb) ++ [(⟨ofB cpu l opn 0, A38, c38⟩ : Hb)]).flatMap hbL) 114 5 :: hbF 117 (([] : List Hb) ++ [(⟨ofB cpu l opn 0, A38, c38⟩ : Hb)]))) 1 [0] (by decide) (by decide) rfl
   exact ret2 rfl HF (.tmp HF rfl) (.tmp HF rfl) (by rw [qkp (by omega) hgood (by omega) (by omega), show (⟨1, cpu, opn, 0, []⟩ : Bk) = ofB cpu l opn 0 from (qtj (by omega)).symm]; exact qmb HM hc40)
  have hd33 := of_decide_eq_false hb33
  refine qd HF rfl (wp_skip (wp_seq (wp_block ?_)))
  refine qs (fun mS aS wS => ∃ (z : Nat), mS = 0 + z ∧ Fr aS 71 [] [(33, .bool false), (10, .slice none 0 0), (26, .bool false), (21, .bool false), (9, vI 0), (8, .slice none 0 0), (0, vB cpu), (1, .slice A l.length c), (2, vI opn), (3, vI lim)] ∧ Mem w wS (.row (.slice none 0 0) 0 [] 114 5 :: hbF 117 [])) (m := 0 + 0) ⟨0, rfl, HF.sub (by kernel_rfl), HM.picksT 1 [0] (by decide) (by decide) rfl⟩ ?_
  clear HF HM; rintro mS a w_ ⟨z, rfl, HF, HM⟩
  refine wp_seq (wp_seq (qa ?_))
  refine fp HF 1 0 [(41, .slice A l.length c)] fun a HF => ?_
  refine fy HF HM 1 rfl rfl rfl (Yl.len rfl rfl (by kernel_rfl)) fun a HF => ?_
  refine fp HF 1 2 [(43, .bool (decide ((l.length : Int) > (0 : Int))))] fun a HF => ?_
  refine qb rfl ?_
  rcases HF.tf 43 rfl with ⟨hb43, HF⟩ | ⟨hb43, HF⟩
  ·
   have hd43 := of_decide_eq_true hb43
   exfalso; omega
  have hd43 := of_decide_eq_false hb43
  refine qd HF rfl (wp_exit (wp_seq (qa ?_)))
  refine fp HF 3 0 [(9, vI 0), (8, .slice none 0 0)] fun a HF => ?_
  refine qb rfl (wp_ret ?_)
  exact ret2 rfl HF (.tmp HF rfl) (.tmp HF rfl) (by rw [qko (by omega) hgood (by omega) (by omega)]; exact qbm HM rfl)
 have hd30 := ne_of_beq_false hb30
 refine fp HF 3 4 [(33, .bool false)] fun a HF => ?_
 refine qb rfl (qd HF rfl (wp_skip (wp_seq (wp_block ?_))))
 refine qs (fun mS aS wS => ∃ (r : List It) (X : Option Addr) (cc : Nat) (q : List Hb) (f : Nat) (Ao : Option Addr) (co : Nat), (Rd w w.heap.size 12 X r.length (r.flatMap itL)) ∧ (r.length ≤ cc) ∧ (GoodI cpu r opn) ∧ (r.length ≤ l.length) ∧ (r.length ≤ f) ∧ (q.map Hb.b ++ cutGo cpu opn lim f r = cutGo cpu opn lim l.length l) ∧ (q.length ≤ co) ∧ (q.length + r.length ≤ l.length) ∧ mS = r.length ∧ Fr aS 71 [] [(33, .bool false), (10, .slice Ao q.length co), (26, .bool false), (21, .bool false), (9, vI 0), (8, .slice none 0 0), (0, vB cpu), (1, .slice X r.length cc), (2, vI opn), (3, vI lim)] ∧ Mem w wS (.row (.slice Ao q.length co) q.length (q.flatMap hbL) 114 5 :: hbF 117 q)) (m := l.length) ⟨l, A, c, [], l.length, none, 0, hr, by omega, hG, by omega, Nat.le_refl _, List.nil_append _, Nat.le_refl _, by simp, rfl, HF.sub (by kernel_rfl), HM.picksT 1 [0] (by decide) (by decide) rfl⟩ ?_
 clear HF HM; rintro mS a w_ ⟨r, X, cc, q, f, Ao, co, hX, hcc, hGr, hrn, hf, hq, hco, hql, rfl, HF, HM⟩
 refine wp_seq (wp_seq (qa ?_))
 refine fp HF 1 0 [(41, .slice X r.length cc)] fun a HF => ?_
 refine fy HF HM 1 rfl rfl rfl (Yl.len rfl rfl (by kernel_rfl)) fun a HF => ?_
 refine fp HF 1 2 [(43, .bool (decide ((r.length : Int) > (0 : Int))))] fun a HF => ?_
 refine qb rfl ?_
 rcases HF.tf 43 rfl with ⟨hb43, HF⟩ | ⟨hb43, HF⟩
 ·
  have hd43 := of_decide_eq_true hb43
  have hr0 : 0 < r.length := by omega
  obtain ⟨m0, hm0⟩ : ∃ m, m = min r.length lim := ⟨_, rfl⟩
  obtain ⟨hcp, hcl, hce⟩ := qjn hGr (limit := lim) (by omega) hr0
  have hst := qfy (cpu := cpu) (limit := lim) (opn := opn) hr0 (f := f) (by omega)
  have hcd : cutN cpu r opn lim = qam (fun n => decide ((ofB cpu r opn n).err = 0)) m0 := by rw [hm0]; rfl
  refine qe HF rfl (wp_skip (wp_block (wp_seq (qa ?_))))
  refine fp HF 1 0 [(44, .slice X r.length cc)] fun a HF => ?_
  refine fy HF HM 1 rfl rfl rfl (Yl.len rfl rfl (by kernel_rfl)) fun a HF => ?_
  refine fp HF 1 2 [(11, vI r.length)] fun a HF => ?_
  refine qb rfl ?_
  refine qaq (fun aS wS => Fr aS 71 [] [(11, vI m0), (43, .bool true), (33, .bool false), (10, .slice Ao q.length co), (26, .bool false), (21, .bool false), (9, vI 0), (8, .slice none 0 0), (0, vB cpu), (1, .slice X r.length cc), (2, vI opn), (3, vI lim)] ∧ Mem w wS (.row (.slice Ao q.length co) q.length (q.flatMap hbL) 114 5 :: hbF 117 q)) ?_ ?_
  ·
   refine wp_seq (qa ?_)
   refine fp HF 3 0 [(48, .bool (decide ((r.length : Int) > (lim : Int))))] fun a HF => ?_
   refine qb rfl ?_
   rcases HF.tf 48 rfl with ⟨hb48, HF⟩ | ⟨hb48, HF⟩
   ·
    have hd48 := of_decide_eq_true hb48
    refine qe HF rfl (qa ?_)
    refine fp HF 2 0 [(11, vI lim)] fun a HF => ?_
    refine qb rfl ?_
    have HF := HF.as (t := 11) (u := vI m0) rfl (by congr 1; omega)
    exact ⟨HF.sub (by kernel_rfl), HM.picksT 1 [0] (by decide) (by decide) rfl⟩
   have hd48 := of_decide_eq_false hb48
   refine qd HF rfl (wp_skip ?_)
   have HF := HF.as (t := 11) (u := vI m0) rfl (by congr 1; omega)
   exact ⟨HF.sub (by kernel_rfl), HM.picksT 1 [0] (by decide) (by decide) rfl⟩
  clear HF HM; rintro a wM48 ⟨HF, HM⟩
  refine wp_seq (wp_block ?_)
  refine qs (fun mS aS wS => ∃ (m : Nat), (m ≤ r.length) ∧ (cutN cpu r opn lim ≤ m) ∧ (cutN cpu r opn lim = qam (fun n => decide ((ofB cpu r opn n).err = 0)) m) ∧ mS = 0 + m ∧ Fr aS 71 [] [(11, vI m), (43, .bool true), (33, .bool false), (10, .slice Ao q.length co), (26, .bool false), (21, .bool false), (9, vI 0), (8, .slice none 0 0), (0, vB cpu), (1, .slice X r.length cc), (2, vI opn), (3, vI lim)] ∧ Mem w wS (.row (.slice Ao q.length co) q.length (q.flatMap hbL) 114 5 :: hbF 117 q)) (m := 0 + m0) ⟨m0, by omega, by rw [hcd]; exact qb9 _ _, hcd, rfl, HF.sub (by kernel_rfl), HM.picksT 1 [0] (by decide) (by decide) rfl⟩ ?_
  clear HF HM; rintro mS a w_ ⟨m, hm, hmc, hdn, rfl, HF, HM⟩
  refine wp_seq (wp_seq (qa ?_))
  refine fp HF 4 0 [(53, vI m), (52, vI opn), (51, .slice X r.length cc), (50, vB cpu)] fun a HF => ?_
  refine fo HF 4 rfl rfl ?_
  refine e_cl HF [vB cpu, .slice X r.length cc, vI opn, vI m] rfl rfl (qhk cpu X r.length cc r opn m hGr (by omega) _ (HM.old hX) rfl (by omega)) ?_
  rintro _ w54 ⟨⟨A54, c54, rfl, ho, hc54⟩, hbw⟩
  refine ⟨_, rfl, ?_⟩
  replace HM := HM.callRow hbw ho
  clear HF; intro a HF
  refine fo HF 5 rfl rfl ?_
  refine e_is HF HM [.agg ((ofB cpu r opn m).cells A54 c54)] (vI ((ofB cpu r opn m).err)) rfl rfl (qmg (ofB cpu r opn m) (qrc hGr m) A54 c54 _ (HM.rd (i := 0) rfl) (by rw [qbh (by omega)]; omega)) fun w55 hbw HM a HF => ?_
  refine fp HF 1 6 [(56, .bool (((ofB cpu r opn m).err : Int) != (0 : Int)))] fun a HF => ?_
  refine qb rfl ?_
  rcases HF.tf 56 rfl with ⟨hb56, HF⟩ | ⟨hb56, HF⟩
  ·
   have hd56 := bne_iff_ne.1 hb56
   have hdd := qhc (p := (fun n => decide ((ofB cpu r opn n).err = 0))) (m := m) (by rw [decide_eq_false_iff_not]; omega) (by omega)
   have hle := qb9 (fun n => decide ((ofB cpu r opn n).err = 0)) (m - 1)
   refine qe HF rfl (wp_skip (wp_block (qa ?_)))
   refine fp HF 2 0 [(58, vI (IntKind.i64.wrap ((m : Int) - 1)))] fun a HF => ?_
   replace HF := HF.sp 58 (vI (m - 1 : Nat)) rfl (qo (by omega) (by omega))
   refine fp HF 1 2 [(11, vI (m - 1 : Nat))] fun a HF => ?_
   refine qb rfl ?_
   exact ⟨_, (by omega), (m - 1), by omega, by rw [hdn, hdd]; exact hle, hdn.trans hdd, rfl, HF.sub (by kernel_rfl), HM.picksT 2 [1] (by decide) (by decide) rfl⟩
  have hd56 := bne_eq_false_iff_eq.1 hb56
  have hhere := qhd (p := (fun n => decide ((ofB cpu r opn n).err = 0))) (m := m) (by rw [decide_eq_true_eq]; omega)
  rw [hdn, hhere] at hst
  refine qd HF rfl (wp_exit (wp_seq (qa ?_)))
  refine fp HF 5 0 [(63, vI m), (62, vI opn), (61, .slice X r.length cc), (60, vB cpu), (59, .slice Ao q.length co)] fun a HF => ?_
  refine fo HF 5 rfl rfl ?_
  refine e_cl HF [vB cpu, .slice X r.length cc, vI opn, vI m] rfl rfl (qhk cpu X r.length cc r opn m hGr (by omega) _ (HM.old hX) rfl (by omega)) ?_
  rintro _ w64 ⟨⟨A64, c64, rfl, ho, hc64⟩, hbw⟩
  refine ⟨_, rfl, ?_⟩
  replace HM := HM.callRow hbw ho
  clear HF; intro a HF
  refine fo HF 6 rfl rfl ?_
  refine zp HF HM (vs := [(0, .agg ((ofB cpu r opn m).cells A64 c64))]) (cs := ((ofB cpu r opn m).cells A64 c64)) rfl qni (by decide) rfl (by kernel_rfl) rfl (by decide) ?_
  clear HF HM; intro a w65 g65 HF HM
  refine fo HF 7 rfl rfl ?_
  refine qz HF HM (i := 3) rfl qni rfl rfl rfl (news := (hbL (⟨ofB cpu r opn m, A64, c64⟩ : Hb))) (HM.rdBlk (i := 0) (n := 1) (size := 5) rfl rfl) (qbv _ _ _) (by omega) (by omega) rfl (by decide) ?_
  clear HF HM; intro a w66 A66 c66 HF HM hc66
  refine fp HF 1 8 [(10, .slice A66 (q.length + 1) c66)] fun a HF => ?_
  refine qb rfl ?_
  have hnA66 : q.length + 1 = (q ++ [(⟨ofB cpu r opn m, A64, c64⟩ : Hb)]).length := by rw [List.length_append]; rfl
  replace HM := HM.reRow (i := 3) (ys := (q ++ [(⟨ofB cpu r opn m, A64, c64⟩ : Hb)]).flatMap hbL) rfl hnA66 (by rw [List.flatMap_append, List.flatMap_cons, List.flatMap_nil, List.append_nil])
  rw [hnA66] at hc66
  replace HF := HF.as (t := 10) (u := .slice A66 ((q ++ [(⟨ofB cpu r opn m, A64, c64⟩ : Hb)]).length) c66) rfl (by rw [hnA66])
  replace HF := HF.as (t := 66) (u := .slice A66 ((q ++ [(⟨ofB cpu r opn m, A64, c64⟩ : Hb)]).length) c66) rfl (by rw [hnA66])
  replace HM := Mem.qvj (a := [.blk g65 ((ofB cpu r opn m).cells A64 c64) 114, .row (.slice A54 ((ofB cpu r opn m).evs.length) c54) ((ofB cpu r opn m).evs.length) ((ofB cpu r opn m).evs.flatMap evL) 117 11, .row (.slice A66 ((q ++ [(⟨ofB cpu r opn m, A64, c64⟩ : Hb)]).length) c66) ((q ++ [(⟨ofB cpu r opn m, A64, c64⟩ : Hb)]).length) ((q ++ [(⟨ofB cpu r opn m, A64, c64⟩ : Hb)]).flatMap hbL) 114 5]) (q := q) (HM.picksT (fs' := (.row (.slice A64 ((ofB cpu r opn m).evs.length) c64) ((ofB cpu r opn m).evs.length) ((ofB cpu r opn m).evs.flatMap evL) 117 11 :: .blk g65 ((ofB cpu r opn m).cells A64 c64) 114 :: .row (.slice A54 ((ofB cpu r opn m).evs.length) c54) ((ofB cpu r opn m).evs.length) ((ofB cpu r opn m).evs.flatMap evL) 117 11 :: .row (.slice A66 ((q ++ [(⟨ofB cpu r opn m, A64, c64⟩ : Hb)]).length) c66) ((q ++ [(⟨ofB cpu r opn m, A64, c64⟩ : Hb)]).length) ((q ++ [(⟨ofB cpu r opn m, A64, c64⟩ : Hb)]).flatMap hbL) 114 5 :: hbF 117 q)) 4 [1, 0, 2, 3] (by decide) (by decide) rfl) rfl
  replace HM : Mem w _ (.blk g65 ((ofB cpu r opn m).cells A64 c64) 114 :: .row (.slice A54 ((ofB cpu r opn m).evs.length) c54) ((ofB cpu r opn m).evs.length) ((ofB cpu r opn m).evs.flatMap evL) 117 11 :: .row (.slice A66 ((q ++ [(⟨ofB cpu r opn m, A64, c64⟩ : Hb)]).length) c66) ((q ++ [(⟨ofB cpu r opn m, A64, c64⟩ : Hb)]).length) ((q ++ [(⟨ofB cpu r opn m, A64, c64⟩ : Hb)]).flatMap hbL) 114 5 :: hbF 117 (q ++ [(⟨ofB cpu r opn m, A64, c64⟩ : Hb)])) := HM
  refine qa ?_
  refine fp HF 2 0 [(68, vI m), (67, .slice X r.length cc)] fun a HF => ?_
  refine fy HF HM 2 rfl rfl rfl (v := .slice (if cc = m then X else X.map (·.add (m * 12))) (r.length - m) (cc - m)) (Yl.sliceFrom qrg (j := m) rfl rfl rfl (by omega)) fun a HF => ?_
  replace HF := HF.sp 69 (.slice (if cc = m then X else X.map (·.add (m * 12))) ((r.drop m).length) (cc - m)) rfl (by rw [List.length_drop])
  refine fp HF 1 3 [(1, .slice (if cc = m then X else X.map (·.add (m * 12))) ((r.drop m).length) (cc - m))] fun a HF => ?_
  refine qb rfl ?_
  exact ⟨_, (by rw [List.length_drop]; omega), (r.drop m), if cc = m then X else X.map (·.add (m * 12)), cc - m, (q ++ [(⟨ofB cpu r opn m, A64, c64⟩ : Hb)]), (f - 1), A66, c66, Rd.qwt qab hX (by omega) hcc, by rw [List.length_drop]; omega, hGr.drop m, by rw [List.length_drop]; omega, by rw [List.length_drop]; omega, by rw [← hq, hst, List.map_append, List.append_assoc]; rfl, hc66, by rw [List.length_append, List.length_drop, List.length_singleton]; omega, rfl, HF.sub (by kernel_rfl), HM.picksT 3 [2] (by decide) (by decide) rfl⟩
 have hd43 := of_decide_eq_false hb43
 have hq2 : q.map Hb.b = cutGo cpu opn lim l.length l := by rw [← hq, qhb (by omega), List.append_nil]
 refine qd HF rfl (wp_exit (wp_seq (qa ?_)))
 refine fp HF 3 0 [(9, vI 0), (8, .slice Ao q.length co)] fun a HF => ?_
 refine qb rfl (wp_ret ?_)
 replace HM := HM.picksT (fs' := (.row (.slice Ao q.length co) q.length (q.flatMap hbL) 114 5 :: hbF 117 q)) 1 [0] (by decide) (by decide) rfl
 exact ret2 rfl HF (.tmp HF rfl) (.tmp HF rfl) (by rw [qkq (by omega) hgood (by omega), ← hq2]; exact qmb HM hco)
theorem qoy (A A2 : Option Addr) (c c2 : Nat) (q q2 : List Hb) (hqq : q.map Hb.b = q2.map Hb.b) (w : World) (hr : Rd w w.heap.size 5 A q.length (q.flatMap hbL)) (hr2 : Rd w w.heap.size 5 A2 q2.length (q2.flatMap hbL)) (hQ : HbRd w q) (hQ2 : HbRd w q2) (hev : ∀ h ∈ q, h.b.evs.length ≤ 1000000) (hn : q.length ≤ 1000000) :
    Calls Tryd.prog 31 #[.slice A q.length c, .slice A2 q2.length c2] w (Is w (.bool true)) := by
 have hlq : q.length = q2.length := by have h := congrArg List.length hqq; rwa [List.length_map, List.length_map] at h
 refine qg (vs := [.slice A q.length c, .slice A2 q2.length c2]) Tryd.func31 rfl rfl (by kernel_rfl) (σ0 := [(0, .slice A q.length c), (1, .slice A2 q2.length c2)]) rfl ?_
 intro a HF
 have HM := Mem.start w
 refine wp_seq (qa ?_)
 refine fp HF 1 0 [(4, .bool false)] fun a HF => ?_
 refine qb rfl (wp_seq (wp_seq (qa ?_)))
 refine fp HF 1 0 [(7, .slice A q.length c)] fun a HF => ?_
 refine fy HF HM 1 rfl rfl rfl (Yl.len rfl rfl (by kernel_rfl)) fun a HF => ?_
 refine fp HF 1 2 [(9, .slice A2 q2.length c2)] fun a HF => ?_
 refine fy HF HM 3 rfl rfl rfl (Yl.len rfl rfl (by kernel_rfl)) fun a HF => ?_
 refine fp HF 1 4 [(11, .bool ((q.length : Int) != (q2.length : Int)))] fun a HF => ?_
 replace HF := HF.sp 11 (.bool false) rfl (by rw [hlq]; simp)
 refine qb rfl (qd HF rfl (wp_skip (wp_seq (wp_seq (qa ?_)))))
 refine fp HF 1 0 [(12, .slice A q.length c)] fun a HF => ?_
 refine fy HF HM 1 rfl rfl rfl (Yl.len rfl rfl (by kernel_rfl)) fun a HF => ?_
 refine fp HF 1 2 [(14, vI 0)] fun a HF => ?_
 refine qb rfl (wp_block ?_)
 refine qs (fun mS aS wS => ∃ (k : Nat), (k ≤ q.length) ∧ mS = q.length - k ∧ Fr aS 28 [] [(14, vI k), (13, vI q.length), (12, .slice A q.length c), (11, .bool false), (4, .bool false), (0, .slice A q.length c), (1, .slice A2 q2.length c2)] ∧ Mem w wS []) (m := q.length - 0) ⟨0, Nat.zero_le _, rfl, HF.sub (by kernel_rfl), HM.picks [] (by decide) rfl⟩ ?_
 clear HF HM; rintro mS a w_ ⟨k, hk, rfl, HF, HM⟩
 refine wp_seq (qa ?_)
 refine fp HF 1 0 [(15, .bool (decide ((k : Int) < (q.length : Int))))] fun a HF => ?_
 refine qb rfl (wp_seq ?_)
 rcases HF.tf 15 rfl with ⟨hb15, HF⟩ | ⟨hb15, HF⟩
 ·
  have hd15 := of_decide_eq_true hb15
  have hk15 : k < q.length := by omega
  have hbe : (q.getD k Hb.zero).b = (q2.getD k Hb.zero).b := hb_eq hqq (by omega)
  refine qe HF rfl (wp_skip (wp_seq (wp_block (wp_seq (qa ?_)))))
  refine fp HF 1 0 [(16, vI k)] fun a HF => ?_
  obtain ⟨gA, oA, rfl, _⟩ := hr.zm (Nat.lt_of_le_of_lt (Nat.zero_le _) (show k < q.length from by omega)) (by decide)
  refine fy HF HM 1 rfl rfl rfl (v := vP gA (oA + k * 5)) (Yl.ix gA oA k 5 rfl rfl rfl) fun a HF => ?_
  refine fy HF HM 2 rfl rfl rfl (v := .agg ((q.getD k Hb.zero).b.cells (q.getD k Hb.zero).A (q.getD k Hb.zero).c)) (Yl.zl rfl rfl si_bk rfl (fun _ h => (h.old hr).qad qcl ((getD_at Hb.zero (k := k) (by first | omega | (simp; omega)))))) fun a HF => ?_
  refine fo HF 3 rfl rfl ?_
  refine qq HF HM (cs := #[vB 0, vB 0, vI 0, vI 0, .slice none 0 0]) rfl (by kernel_rfl) rfl (by decide) ?_
  clear HF HM; intro a w6 g6 HF HM
  refine fp HF 1 4 [(5, vI k)] fun a HF => ?_
  refine fo HF 5 rfl rfl ?_
  refine e_sa HF HM 0 rfl rfl rfl rfl rfl si_bk rfl rfl (qbv _ _ _) ?_
  clear HM; intro w5_5 HM
  refine qb rfl (wp_seq ?_)
  refine qac HM [.blk g6 ((q.getD k Hb.zero).b.cells (q.getD k Hb.zero).A (q.getD k Hb.zero).c) 41] [0] [] fun HM HS => ?_
  refine ap HF (fun _ => HS) [2, 3] #[false, false, true, true, false, false, false, false] [(22, vI k), (21, .slice A2 q2.length c2)] fun a HF => ?_
  refine ay HF HS 0 rfl rfl rfl (v := .agg ((q.getD k Hb.zero).b.cells (q.getD k Hb.zero).A (q.getD k Hb.zero).c)) (Yl.zl rfl rfl si_bk rfl (fun _ h => qf (h.blk (i := 0) rfl))) fun a HF => ?_
  obtain ⟨gA2, oA2, rfl, _⟩ := hr2.zm (Nat.lt_of_le_of_lt (Nat.zero_le _) (show k < q2.length from by omega)) (by decide)
  refine ay HF HS 4 rfl rfl rfl (v := vP gA2 (oA2 + k * 5)) (Yl.ix gA2 oA2 k 5 rfl rfl rfl) fun a HF => ?_
  refine ay HF HS 5 rfl rfl rfl (v := .agg ((q2.getD k Hb.zero).b.cells (q2.getD k Hb.zero).A (q2.getD k Hb.zero).c)) (Yl.zl rfl rfl qcj rfl (fun _ h => (h.old hr2).qad qcl ((getD_at Hb.zero (k := k) (by first | omega | (simp; omega)))))) fun a HF => ?_
  refine qj [1] (by kernel_rfl) rfl ?_
  refine all_cons ?_ all_nil
  refine qn HF (i := 1) rfl rfl ?_
  refine e_cl HF [.agg ((q.getD k Hb.zero).b.cells (q.getD k Hb.zero).A (q.getD k Hb.zero).c)] rfl rfl (qk7 (q.getD k Hb.zero).b ((q.getD k Hb.zero).A) (q.getD k Hb.zero).c _ (HM.old (hQ.at hk15)) (hev _ (qaz Hb.zero hk15))) ?_
  rintro _ w20 ⟨⟨A20, c20, rfl, ho, hc20⟩, hbw⟩
  refine ⟨_, rfl, ?_⟩
  replace HM := HM.callRow hbw ho
  clear HF; intro a HF
  refine keepS (HM.picks [1] (by decide) rfl) (fun HS => ?_)
  refine qj [6] (by kernel_rfl) rfl ?_
  refine all_cons ?_ all_nil
  refine qn HF (i := 6) rfl rfl ?_
  refine e_is HF HM [.agg ((q.getD k Hb.zero).b.cells A20 c20), .agg ((q2.getD k Hb.zero).b.cells (q2.getD k Hb.zero).A (q2.getD k Hb.zero).c)] (.bool (decide ((q.getD k Hb.zero).b = (q2.getD k Hb.zero).b))) rfl rfl (qox (q.getD k Hb.zero).b (q2.getD k Hb.zero).b A20 ((q2.getD k Hb.zero).A) c20 (q2.getD k Hb.zero).c _ (HM.rd (i := 0) rfl) (HM.old (hQ2.at (by omega))) (hev _ (qaz Hb.zero hk15))) fun w25 hbw HM a HF => ?_
  refine keepS (HM.picks [1] (by decide) rfl) (fun HS => ?_)
  refine zg HF (fun _ => HS) (i := 7) rfl rfl (d := 26) rfl (by decide) (by kernel_rfl) (fun _ _ _ h => h) (v := .bool (!(decide ((q.getD k Hb.zero).b = (q2.getD k Hb.zero).b)))) (fun _ => Yl.pure (by kernel_rfl)) fun a HF => ?_
  replace HF := HF.sp 26 (.bool false) rfl (by rw [decide_eq_true hbe]; rfl)
  refine ql (by kernel_rfl) ?_
  refine qd HF rfl (wp_skip (qa ?_))
  refine fp HF 1 0 [(27, vI (IntKind.i64.wrap ((k : Int) + 1)))] fun a HF => ?_
  replace HF := HF.sp 27 (vI (k + 1 : Nat)) rfl (qo (by omega) (by omega))
  refine fp HF 1 1 [(14, vI (k + 1 : Nat))] fun a HF => ?_
  refine qb rfl ?_
  exact ⟨_, (by omega), k + 1, by omega, rfl, HF.sub (by kernel_rfl), HM.picks [] (by decide) rfl⟩
 have hd15 := of_decide_eq_false hb15
 refine qd HF rfl (wp_exit (wp_seq (qa ?_)))
 refine fp HF 1 0 [(4, .bool true)] fun a HF => ?_
 refine qb rfl (wp_ret ?_)
 exact ret1 rfl HF (.tmp HF rfl) (⟨rfl, HM.below⟩)
theorem qsb (cpu : Nat) (hcpu : cpu < 256) (A : Option Addr) (n c : Nat) (l : List It) (opn limit : Int) (hok : ∀ x ∈ l, x.Ok) (ho : I64 opn) (hlm : I64 limit) (w : World) (hr : Rd w w.heap.size 12 A n (l.flatMap itL)) (hc : n ≤ c) (hln : l.length = n) (hn : n ≤ 1000000) {bs : List Bk} {ce : Nat} (h : cutS cpu l opn limit = (bs, ce)) :
  Calls Tryd.prog 29 #[.int .u8 (cpu : Int), .slice A n c, .int .i64 opn, .int .i64 limit] w (qg4 117 114 w ce bs) := by
 have h1 := qot cpu hcpu A n c l opn limit hok ho hlm w hr hc hln hn
 rw [h] at h1
 exact h1
theorem qvi (l : List It) : ∀ v ∈ l.flatMap itL, v.oneCell' = true := by
 intro v hv
 obtain ⟨x, _, hx⟩ := List.mem_flatMap.1 hv
 exact qks x v hx
theorem qo9 (cpu : Nat) (hcpu : cpu < 256) (A : Option Addr) (c : Nat) (l : List It) (opn lim : Int) (hok : ∀ x ∈ l, x.Ok) (hop : I64 opn) (hlm : I64 lim) (B : Nat) (w : World) (hL : LaidX B w) (hB : B ≤ w.heap.size) (hr : Rd w w.heap.size 12 A l.length (l.flatMap itL)) (hc : l.length ≤ c) (hn : l.length ≤ 100000) :
    Calls Tryd.prog 9 #[.int .u8 (cpu : Int), .slice A l.length c, .int .i64 opn, .int .i64 lim] w (Is w (.bool true)) := by
 refine qg (vs := [vB cpu, .slice A l.length c, vI opn, vI lim]) Tryd.func9 rfl rfl (by kernel_rfl) (σ0 := [(0, vB cpu), (1, .slice A l.length c), (2, vI opn), (3, vI lim)]) rfl ?_
 intro a HF
 have HM := Mem.start w
 refine wp_seq (qa ?_)
 refine fp HF 1 0 [(8, .bool false)] fun a HF => ?_
 refine qb rfl (wp_seq (qa ?_))
 refine fo HF 0 rfl rfl ?_
 refine qm4 HF HM rfl ei_it rfl (by decide) ?_
 clear HF HM; intro a w17 g17 HF HM
 refine fp HF 1 1 [(18, .slice A l.length c)] fun a HF => ?_
 refine fo HF 2 rfl rfl ?_
 refine qz HF HM (i := 0) rfl ei_it rfl rfl rfl (news := (l.flatMap itL)) (HM.old hr) (qvi _) (by omega) (by omega) rfl (by decide) ?_
 clear HF HM; intro a w19 A19 c19 HF HM hc19
 rw [show [] ++ (l.flatMap itL) = l.flatMap itL from by rw [List.nil_append]] at HM
 refine fp HF 1 3 [(9, .slice A19 (0 + l.length) c19)] fun a HF => ?_
 refine qb rfl ?_
 have hnA19 : 0 + l.length = l.length := by rw [Nat.zero_add]
 replace HM := HM.reRow (i := 0) (ys := l.flatMap itL) rfl hnA19 (rfl)
 rw [hnA19] at hc19
 replace HF := HF.as (t := 9) (u := .slice A19 l.length c19) rfl (by rw [hnA19])
 replace HF := HF.as (t := 19) (u := .slice A19 l.length c19) rfl (by rw [hnA19])
 obtain ⟨bs, ce, hcs⟩ : ∃ bs ce, cutS cpu l opn lim = (bs, ce) := ⟨_, _, rfl⟩
 have hcg := qr7 hcpu hok hop hcs
 have hbl := hcg.2.2
 refine wp_seq (qa ?_)
 refine fp HF 4 0 [(24, vI lim), (23, vI opn), (22, .slice A19 l.length c19), (21, vB cpu)] fun a HF => ?_
 refine fo HF 4 rfl rfl ?_
 refine e_cl HF [vB cpu, .slice A19 l.length c19, vI opn, vI lim] rfl rfl (qfe cpu hcpu A19 l.length c19 l opn lim hok hop hlm B _ (hL.mem HM hB) (HM.le hB) (HM.rd (i := 0) rfl) (by omega) rfl (by omega) hcs) ?_
 rintro _ w25 ⟨A1, c1, q, rfl, hqb, hc1, hm⟩
 have hql : bs.length = q.length := by rw [← hqb, List.length_map]
 rw [hql] at hm hc1 ⊢
 refine ⟨_, rfl, ?_⟩
 replace HM := Mem.quj (a := [.row (.slice A19 l.length c19) l.length (l.flatMap itL) 47 12]) (b := []) HM hm
 clear HF; intro a HF
 refine fp HF 5 5 [(11, vI ce), (10, .slice A1 q.length c1)] fun a HF => ?_
 refine qb rfl ?_
 have hqev : ∀ h ∈ q, h.b.evs.length ≤ 1000000 := fun h hh => by have := hcg.2.1 h.b (by rw [← hqb]; exact List.mem_map_of_mem hh); omega
 refine wp_seq (qa ?_)
 refine fp HF 2 0 [(30, .slice A l.length c), (29, vB cpu)] fun a HF => ?_
 refine fo HF 2 rfl rfl ?_
 refine e_cl HF [.slice A l.length c] rfl rfl (qk1 A l.length c l _ (HM.old hr) rfl (by omega)) ?_
 rintro _ w31 ⟨⟨A31, c31, rfl, ho, hc31⟩, hbw⟩
 refine ⟨_, rfl, ?_⟩
 replace HM := HM.callRow hbw ho
 clear HF; intro a HF
 refine fp HF 2 3 [(33, vI lim), (32, vI opn)] fun a HF => ?_
 refine fo HF 5 rfl rfl ?_
 refine e_cl HF [vB cpu, .slice A31 l.length c31, vI opn, vI lim] rfl rfl (qsb cpu hcpu A31 l.length c31 l opn lim hok hop hlm _ (HM.rd (i := 0) rfl) (by omega) rfl (by omega) hcs) ?_
 rintro _ w34 ⟨A2, c2, q2, rfl, hqb2, hc2, hm⟩
 have hql2 : bs.length = q2.length := by rw [← hqb2, List.length_map]
 rw [hql2] at hm hc2 ⊢
 refine ⟨_, rfl, ?_⟩
 replace HM := Mem.quj (a := [.row (.slice A31 l.length c31) l.length (l.flatMap itL) 119 12, .row (.slice A1 q.length c1) q.length (q.flatMap hbL) 41 5, .row (.slice A19 l.length c19) l.length (l.flatMap itL) 47 12]) (b := hbF 45 q ++ []) HM hm
 clear HF; intro a HF
 refine fp HF 5 6 [(13, vI ce), (12, .slice A2 q2.length c2)] fun a HF => ?_
 refine qb rfl (wp_seq (wp_seq (qa ?_)))
 refine fp HF 3 0 [(39, .bool ((ce : Int) != (ce : Int)))] fun a HF => ?_
 replace HF := HF.sp 39 (.bool false) rfl (by simp)
 refine fp HF 3 3 [(42, .slice A2 q2.length c2), (41, .slice A1 q.length c1), (40, .bool false)] fun a HF => ?_
 refine fo HF 6 rfl rfl ?_
 refine e_is HF HM [.slice A1 q.length c1, .slice A2 q2.length c2] (.bool true) rfl rfl (qoy A1 A2 c1 c2 q q2 (hqb.trans hqb2.symm) _ (HM.rd (i := 2) rfl) (HM.rd (i := 0) rfl) (Mem.qww (a := [.row (.slice A2 q2.length c2) q2.length (q2.flatMap hbL) 114 5, .row (.slice A31 l.length c31) l.length (l.flatMap itL) 119 12, .row (.slice A1 q.length c1) q.length (q.flatMap hbL) 41 5, .row (.slice A19 l.length c19) l.length (l.flatMap itL) 47 12]) HM) (Mem.qw2 (a := [.row (.slice A2 q2.length c2) q2.length (q2.flatMap hbL) 114 5, .row (.slice A31 l.length c31) l.length (l.flatMap itL) 119 12, .row (.slice A1 q.length c1) q.length (q.flatMap hbL) 41 5, .row (.slice A19 l.length c19) l.length (l.flatMap itL) 47 12]) HM) hqev (by omega)) fun w43 hbw HM a HF => ?_
 refine fp HF 2 7 [(45, .bool false)] fun a HF => ?_
 refine qb rfl ?_
 replace HM := Mem.qw3 (a := [.row (.slice A2 q2.length c2) q2.length (q2.flatMap hbL) 114 5, .row (.slice A31 l.length c31) l.length (l.flatMap itL) 119 12, .row (.slice A1 q.length c1) q.length (q.flatMap hbL) 41 5, .row (.slice A19 l.length c19) l.length (l.flatMap itL) 47 12]) HM
 replace HM : Mem w _ (.row (.slice A2 q2.length c2) q2.length (q2.flatMap hbL) 114 5 :: .row (.slice A31 l.length c31) l.length (l.flatMap itL) 119 12 :: .row (.slice A1 q.length c1) q.length (q.flatMap hbL) 41 5 :: .row (.slice A19 l.length c19) l.length (l.flatMap itL) 47 12 :: (hbF 45 q ++ ([]))) := HM
 refine qd HF rfl (wp_skip (wp_seq (wp_seq (qa ?_))))
 refine fp HF 1 0 [(46, .slice A1 q.length c1)] fun a HF => ?_
 refine fy HF HM 1 rfl rfl rfl (Yl.len rfl rfl (by kernel_rfl)) fun a HF => ?_
 refine fp HF 1 2 [(48, vI 0)] fun a HF => ?_
 refine qb rfl (wp_block ?_)
 refine qs (fun mS aS wS => ∃ (i : Nat), (i ≤ q.length) ∧ mS = q.length - i ∧ Fr aS 85 [] [(48, vI i), (47, vI q.length), (45, .bool false), (10, .slice A1 q.length c1), (19, .slice A19 l.length c19), (9, .slice A19 l.length c19), (8, .bool false), (0, vB cpu), (1, .slice A l.length c), (2, vI opn), (3, vI lim)] ∧ Mem w wS (.row (.slice A2 q2.length c2) q2.length (q2.flatMap hbL) 114 5 :: .row (.slice A31 l.length c31) l.length (l.flatMap itL) 119 12 :: .row (.slice A1 q.length c1) q.length (q.flatMap hbL) 41 5 :: .row (.slice A19 l.length c19) l.length (l.flatMap itL) 47 12 :: (hbF 45 (q.drop i) ++ ([])))) (m := q.length - 0) ⟨0, Nat.zero_le _, rfl, HF.sub (by kernel_rfl), HM.picksT 4 [0, 1, 2, 3] (by decide) (by decide) rfl⟩ ?_
 clear HF HM; rintro mS a w_ ⟨i, hi, rfl, HF, HM⟩
 refine wp_seq (qa ?_)
 refine fp HF 1 0 [(49, .bool (decide ((i : Int) < (q.length : Int))))] fun a HF => ?_
 refine qb rfl (wp_seq ?_)
 rcases HF.tf 49 rfl with ⟨hb49, HF⟩ | ⟨hb49, HF⟩
 ·
  have hd49 := of_decide_eq_true hb49
  have hi49 : i < q.length := by omega
  obtain ⟨⟨b, Ab, cb⟩, hx⟩ : ∃ x, q.getD i Hb.zero = x := ⟨_, rfl⟩
  have hbe : b.evs.length ≤ 1000000 := by have := hqev _ (qaz Hb.zero hi49); rw [hx] at this; exact this
  replace HM := Mem.qwr (a := [.row (.slice A2 q2.length c2) q2.length (q2.flatMap hbL) 114 5, .row (.slice A31 l.length c31) l.length (l.flatMap itL) 119 12, .row (.slice A1 q.length c1) q.length (q.flatMap hbL) 41 5, .row (.slice A19 l.length c19) l.length (l.flatMap itL) 47 12]) (q := q) (k := i) (b := []) HM hi49
  rw [hx] at HM
  replace HM : Mem w _ (.row (.slice Ab b.evs.length cb) b.evs.length (b.evs.flatMap evL) 45 11 :: .row (.slice A2 q2.length c2) q2.length (q2.flatMap hbL) 114 5 :: .row (.slice A31 l.length c31) l.length (l.flatMap itL) 119 12 :: .row (.slice A1 q.length c1) q.length (q.flatMap hbL) 41 5 :: .row (.slice A19 l.length c19) l.length (l.flatMap itL) 47 12 :: (hbF 45 (q.drop (i + 1)) ++ ([]))) := HM
  refine qe HF rfl (wp_skip (wp_seq (wp_block (wp_seq (qa ?_)))))
  refine fp HF 2 0 [(14, vI i)] fun a HF => ?_
  refine qb rfl (wp_seq (qa ?_))
  refine fp HF 2 0 [(52, vI i), (51, .slice A1 q.length c1)] fun a HF => ?_
  obtain ⟨gA1, rfl⟩ := qbl (HM.own (i := 3) rfl) (Nat.lt_of_le_of_lt (Nat.zero_le _) (show i < q.length from by omega))
  refine fy HF HM 2 rfl rfl rfl (v := vP gA1 (i * 5)) (Yl.ix0 gA1 i 5 rfl rfl rfl) fun a HF => ?_
  refine fp HF 1 3 [(54, vP gA1 (i * 5 + 4))] fun a HF => ?_
  refine fy HF HM 4 rfl rfl rfl (v := .slice ((q.getD i Hb.zero).A) ((q.getD i Hb.zero).b.evs.length) ((q.getD i Hb.zero).c)) (Yl.qh rfl rfl (by kernel_rfl) (fun _ h => h.qda qcl (i := 3) rfl (k := i) (off := 4) (x := (q.getD i Hb.zero)) ((getD_at Hb.zero hi49)) rfl)) fun a HF => ?_
  replace HF := HF.sp 55 (.slice Ab b.evs.length cb) rfl (by rw [hx])
  refine fy HF HM 5 rfl rfl rfl (Yl.len rfl rfl (by kernel_rfl)) fun a HF => ?_
  refine fp HF 1 6 [(57, vI 0)] fun a HF => ?_
  refine qb rfl ?_
  replace HM := HM.asRow (i := 0) (ys := (updUp qgc b.evs 0).flatMap evL) rfl (by rw [qou])
  refine wp_block ?_
  refine qs (fun mS aS wS => ∃ (k : Nat), (k ≤ b.evs.length) ∧ mS = b.evs.length - k ∧ Fr aS 85 [] [(57, vI k), (56, vI b.evs.length), (14, vI i), (49, .bool true), (48, vI i), (47, vI q.length), (45, .bool false), (10, vS gA1 q.length c1), (19, .slice A19 l.length c19), (9, .slice A19 l.length c19), (8, .bool false), (0, vB cpu), (1, .slice A l.length c), (2, vI opn), (3, vI lim)] ∧ Mem w wS (.row (.slice Ab b.evs.length cb) b.evs.length ((updUp qgc b.evs k).flatMap evL) 45 11 :: .row (.slice A2 q2.length c2) q2.length (q2.flatMap hbL) 114 5 :: .row (.slice A31 l.length c31) l.length (l.flatMap itL) 119 12 :: .row (vS gA1 q.length c1) q.length (q.flatMap hbL) 41 5 :: .row (.slice A19 l.length c19) l.length (l.flatMap itL) 47 12 :: (hbF 45 (q.drop (i + 1)) ++ ([])))) (m := b.evs.length - 0) ⟨0, Nat.zero_le _, rfl, HF.sub (by kernel_rfl), HM.picksT 5 [0, 1, 2, 3, 4] (by decide) (by decide) rfl⟩ ?_
  clear HF HM; rintro mS a w_ ⟨k, hk, rfl, HF, HM⟩
  refine wp_seq (qa ?_)
  refine fp HF 1 0 [(58, .bool (decide ((k : Int) < (b.evs.length : Int))))] fun a HF => ?_
  refine qb rfl (wp_seq ?_)
  rcases HF.tf 58 rfl with ⟨hb58, HF⟩ | ⟨hb58, HF⟩
  ·
   have hd58 := of_decide_eq_true hb58
   have hk58 : k < b.evs.length := by omega
   refine qe HF rfl (wp_skip (wp_seq (wp_block (wp_seq (qa ?_)))))
   refine fp HF 2 0 [(15, vI k)] fun a HF => ?_
   refine qb rfl (qa ?_)
   refine fp HF 2 0 [(61, vI i), (60, vS gA1 q.length c1)] fun a HF => ?_
   refine fy HF HM 2 rfl rfl rfl (v := vP gA1 (i * 5)) (Yl.ix0 gA1 i 5 rfl rfl rfl) fun a HF => ?_
   refine fp HF 1 3 [(63, vP gA1 (i * 5 + 4))] fun a HF => ?_
   refine fy HF HM 4 rfl rfl rfl (v := .slice ((q.getD i Hb.zero).A) ((q.getD i Hb.zero).b.evs.length) ((q.getD i Hb.zero).c)) (Yl.qh rfl rfl (by kernel_rfl) (fun _ h => h.qda qcl (i := 3) rfl (k := i) (off := 4) (x := (q.getD i Hb.zero)) ((getD_at Hb.zero hi49)) rfl)) fun a HF => ?_
   replace HF := HF.sp 64 (.slice Ab b.evs.length cb) rfl (by rw [hx])
   refine fp HF 1 5 [(65, vI k)] fun a HF => ?_
   obtain ⟨gAb, rfl⟩ := qbl (HM.own (i := 0) rfl) (Nat.lt_of_le_of_lt (Nat.zero_le _) (show k < b.evs.length from by omega))
   refine fy HF HM 6 rfl rfl rfl (v := vP gAb (k * 11)) (Yl.ix0 gAb k 11 rfl rfl rfl) fun a HF => ?_
   refine fp HF 1 7 [(67, vP gAb (k * 11))] fun a HF => ?_
   refine fo HF 8 rfl rfl ?_
   refine qn4 HF HM (i := 0) rfl rfl rfl rfl (by kernel_rfl) rfl rfl (by simp only [qay evL 11 qy, qru]; omega) ?_
   clear HM; intro w12_8 HM
   replace HM := HM.asRow (i := 0) (ys := (updUp qgc b.evs (k + 1)).flatMap evL) rfl ((qn5 evL 11 qy (updUp qgc b.evs k) k (b.evs.getD k Ev.zero) (qgc (b.evs.getD k Ev.zero)) (qtn qgc b.evs Ev.zero hk58) 0 (by omega) (.int .i64 (-1)) (qow _)).trans (by rw [qov qgc b.evs Ev.zero hk58]))
   refine qb rfl (qa ?_)
   refine fp HF 1 0 [(68, vI (IntKind.i64.wrap ((k : Int) + 1)))] fun a HF => ?_
   replace HF := HF.sp 68 (vI (k + 1 : Nat)) rfl (qo (by omega) (by omega))
   refine fp HF 1 1 [(57, vI (k + 1 : Nat))] fun a HF => ?_
   refine qb rfl ?_
   exact ⟨_, (by omega), k + 1, by omega, rfl, HF.sub (by kernel_rfl), HM.picksT 5 [0, 1, 2, 3, 4] (by decide) (by decide) rfl⟩
  have hd58 := of_decide_eq_false hb58
  refine qd HF rfl (wp_exit (qa ?_))
  refine fp HF 1 0 [(69, vI (IntKind.i64.wrap ((i : Int) + 1)))] fun a HF => ?_
  replace HF := HF.sp 69 (vI (i + 1 : Nat)) rfl (qo (by omega) (by omega))
  refine fp HF 1 1 [(48, vI (i + 1 : Nat))] fun a HF => ?_
  refine qb rfl ?_
  exact ⟨_, (by omega), i + 1, by omega, rfl, HF.sub (by kernel_rfl), HM.picksT 5 [1, 2, 3, 4] (by decide) (by decide) rfl⟩
 have hd49 := of_decide_eq_false hb49
 refine qd HF rfl (wp_exit (wp_seq (wp_seq (qa ?_))))
 refine fp HF 1 0 [(70, .slice A l.length c)] fun a HF => ?_
 refine fy HF HM 1 rfl rfl rfl (Yl.len rfl rfl (by kernel_rfl)) fun a HF => ?_
 refine fp HF 1 2 [(72, vI 0)] fun a HF => ?_
 refine qb rfl (wp_block ?_)
 refine qs (fun mS aS wS => ∃ (j : Nat), (j ≤ l.length) ∧ mS = l.length - j ∧ Fr aS 85 [] [(72, vI j), (71, vI l.length), (49, .bool false), (48, vI i), (47, vI q.length), (45, .bool false), (10, .slice A1 q.length c1), (19, .slice A19 l.length c19), (9, .slice A19 l.length c19), (8, .bool false), (0, vB cpu), (1, .slice A l.length c), (2, vI opn), (3, vI lim)] ∧ Mem w wS (.row (.slice A2 q2.length c2) q2.length (q2.flatMap hbL) 114 5 :: .row (.slice A31 l.length c31) l.length (l.flatMap itL) 119 12 :: .row (.slice A1 q.length c1) q.length (q.flatMap hbL) 41 5 :: .row (.slice A19 l.length c19) l.length (l.flatMap itL) 47 12 :: (hbF 45 (q.drop i) ++ ([])))) (m := l.length - 0) ⟨0, Nat.zero_le _, rfl, HF.sub (by kernel_rfl), HM.picksT 4 [0, 1, 2, 3] (by decide) (by decide) rfl⟩ ?_
 clear HF HM; rintro mS a w_ ⟨j, hj, rfl, HF, HM⟩
 refine wp_seq (qa ?_)
 refine fp HF 1 0 [(73, .bool (decide ((j : Int) < (l.length : Int))))] fun a HF => ?_
 refine qb rfl (wp_seq ?_)
 rcases HF.tf 73 rfl with ⟨hb73, HF⟩ | ⟨hb73, HF⟩
 ·
  have hd73 := of_decide_eq_true hb73
  have hj73 : j < l.length := by omega
  refine qe HF rfl (wp_skip (wp_seq (wp_block (wp_seq (qa ?_)))))
  refine fp HF 2 0 [(16, vI j)] fun a HF => ?_
  refine qb rfl (wp_seq ?_)
  refine qqq HM (.row (.slice A2 q2.length c2) q2.length (q2.flatMap hbL) 114 5 :: .row (.slice A31 l.length c31) l.length (l.flatMap itL) 119 12 :: .row (.slice A1 q.length c1) q.length (q.flatMap hbL) 41 5 :: .row (.slice A19 l.length c19) l.length (l.flatMap itL) 47 12 :: (hbF 45 (q.drop i) ++ ([]))) 4 [0, 1, 2, 3] [] fun HM HS => ?_
  refine ap HF (fun _ => HS) [0, 1, 4, 5] #[true, true, false, false, true, true, false, false, false] [(80, vI j), (79, .slice A l.length c), (76, vI j), (75, .slice A19 l.length c19)] fun a HF => ?_
  obtain ⟨gA19, rfl⟩ := qbl (HM.own (i := 3) rfl) (Nat.lt_of_le_of_lt (Nat.zero_le _) (show j < l.length from by omega))
  refine ay HF HS 2 rfl rfl rfl (v := vP gA19 (j * 12)) (Yl.ix0 gA19 j 12 rfl rfl rfl) fun a HF => ?_
  refine ay HF HS 3 rfl rfl rfl (v := .agg ((l.getD j It.zero).cells)) (Yl.zl rfl rfl si_it rfl (fun _ h => h.qsd qab (i := 3) rfl ((getD_at It.zero (k := j) (by first | omega | (simp; omega)))))) fun a HF => ?_
  obtain ⟨gA, oA, rfl, _⟩ := hr.zm (Nat.lt_of_le_of_lt (Nat.zero_le _) (show j < l.length from by omega)) (by decide)
  refine ay HF HS 6 rfl rfl rfl (v := vP gA (oA + j * 12)) (Yl.ix gA oA j 12 rfl rfl rfl) fun a HF => ?_
  refine ay HF HS 7 rfl rfl rfl (v := .agg ((l.getD j It.zero).cells)) (Yl.zl rfl rfl si_it rfl (fun _ h => (h.old hr).qad qab ((getD_at It.zero (k := j) (by first | omega | (simp; omega)))))) fun a HF => ?_
  refine ay HF HS 8 rfl rfl rfl (v := .bool (!(decide ((l.getD j It.zero) = (l.getD j It.zero))))) (Yl.qwv rfl rfl rfl (qtw (l.getD j It.zero) (l.getD j It.zero))) fun a HF => ?_
  replace HF := HF.sp 83 (.bool false) rfl (by simp)
  refine ql (by kernel_rfl) ?_
  refine qd HF rfl (wp_skip (qa ?_))
  refine fp HF 1 0 [(84, vI (IntKind.i64.wrap ((j : Int) + 1)))] fun a HF => ?_
  replace HF := HF.sp 84 (vI (j + 1 : Nat)) rfl (qo (by omega) (by omega))
  refine fp HF 1 1 [(72, vI (j + 1 : Nat))] fun a HF => ?_
  refine qb rfl ?_
  exact ⟨_, (by omega), j + 1, by omega, rfl, HF.sub (by kernel_rfl), HM.picksT 4 [0, 1, 2, 3] (by decide) (by decide) rfl⟩
 have hd73 := of_decide_eq_false hb73
 refine qd HF rfl (wp_exit (wp_seq (qa ?_)))
 refine fp HF 1 0 [(8, .bool true)] fun a HF => ?_
 refine qb rfl (wp_ret ?_)
 exact ret1 rfl HF (.tmp HF rfl) (⟨rfl, HM.below⟩)
theorem qhz (cpu : Nat) (hcpu : cpu < 256) (A : Option Addr) (c : Nat) (l : List It) (opn lim : Int) (hok : ∀ x ∈ l, x.Ok) (hop : I64 opn) (hlm : I64 lim) (B : Nat) (w : World) (hL : LaidX B w) (hB : B ≤ w.heap.size) (hr : Rd w w.heap.size 12 A l.length (l.flatMap itL)) (hc : l.length ≤ c) (hn : l.length ≤ 9223372036854775807) :
    Calls Tryd.prog 3 #[.int .u8 (cpu : Int), .slice A l.length c, .int .i64 opn, .int .i64 lim] w (Is w (.bool true)) := by
 refine qg (vs := [vB cpu, .slice A l.length c, vI opn, vI lim]) Tryd.func3 rfl rfl (by kernel_rfl) (σ0 := [(0, vB cpu), (1, .slice A l.length c), (2, vI opn), (3, vI lim)]) rfl ?_
 intro a HF
 have HM := Mem.start w
 refine wp_seq (qa ?_)
 refine fp HF 1 0 [(8, .bool false)] fun a HF => ?_
 refine qb rfl (wp_seq (qa ?_))
 refine fp HF 1 0 [(9, .slice A l.length c)] fun a HF => ?_
 refine fy HF HM 1 rfl rfl rfl (Yl.len rfl rfl (by kernel_rfl)) fun a HF => ?_
 refine fp HF 2 2 [(12, .bool (decide ((l.length : Int) > (150 : Int))))] fun a HF => ?_
 rcases HF.tf 12 rfl with ⟨hb12, HF⟩ | ⟨hb12, HF⟩
 ·
  have hd12 := of_decide_eq_true hb12
  refine fp HF 7 4 [(19, .bool true)] fun a HF => ?_
  refine fo HF 11 rfl rfl ?_
  refine e_is HF HM [] (.bool true) rfl rfl (qiz B _ (hL.mem HM hB) (HM.le hB)) fun w20 hbw HM a HF => ?_
  refine fp HF 2 12 [(8, .bool true)] fun a HF => ?_
  refine qb rfl (wp_ret ?_)
  exact ret1 rfl HF (.tmp HF rfl) (⟨rfl, HM.below⟩)
 have hd12 := of_decide_eq_false hb12
 refine fp HF 4 4 [(16, vI lim), (15, vI opn), (14, .slice A l.length c), (13, vB cpu)] fun a HF => ?_
 refine fo HF 8 rfl rfl ?_
 refine e_is HF HM [vB cpu, .slice A l.length c, vI opn, vI lim] (.bool true) rfl rfl (qo9 cpu hcpu A c l opn lim hok hop hlm B _ (hL.mem HM hB) (HM.le hB) (HM.old hr) hc (by omega)) fun w17 hbw HM a HF => ?_
 refine fp HF 2 9 [(19, .bool true)] fun a HF => ?_
 refine fo HF 11 rfl rfl ?_
 refine e_is HF HM [] (.bool true) rfl rfl (qiz B _ (hL.mem HM hB) (HM.le hB)) fun w20 hbw HM a HF => ?_
 refine fp HF 2 12 [(8, .bool true)] fun a HF => ?_
 refine qb rfl (wp_ret ?_)
 exact ret1 rfl HF (.tmp HF rfl) (⟨rfl, HM.below⟩)
end Go.Proofs.YtfeheccoijnbaaaDoor
