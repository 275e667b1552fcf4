/- Parts. -/
import Derived.Test.YtfeheccoijnbaaaDoorQjDoorE
import Derived.Test.YtfeheccoijnbaaaDoorQjMade
import Derived.Test.YtfeheccoijnbaaaDoorQjZ2
set_option linter.all false
set_option maxRecDepth 100000
set_option maxHeartbeats 8000000
namespace Go.Proofs.YtfeheccoijnbaaaDoor
open Go.RowKit Go.ChangeShapes Go.WideShapes Go.ChangeAt
section
variable {H : Type} {enc : TypeId × Value → H} {P : Program} {W : World} {sp : Nat → Bool} {held : Bool}
theorem flat_get {sz : Nat} : ∀ (css : List (List Value)), (∀ l ∈ css, l.length = sz) → ∀ p u, (css.flatMap id)[p]? = some u → ∃ i j, ∃ hi : i < css.length, j < sz ∧ p = i * sz + j ∧ css[i][j]? = some u := by
 intro css
 induction css with
 | nil => intro _ p u h; simp at h
 | cons l r ih =>
  intro h p u hu
  have hll := h l (by simp)
  rw [List.flatMap_cons] at hu
  by_cases hp : p < sz
  ·rw [List.getElem?_append_left (by simp only [id]; omega)] at hu
   exact ⟨0, p, by simp, hp, by omega, hu⟩
  ·rw [List.getElem?_append_right (by simp only [id]; omega)] at hu
   simp only [id] at hu
   rw [hll] at hu
   obtain ⟨i, j, hi, hj, hpj, hu'⟩ := ih (fun y hy => h y (by simp [hy])) _ u hu
   exact ⟨i + 1, j, by simp; omega, hj, by rw [Nat.succ_mul]; omega, by simpa using hu'⟩
theorem qq9 {sz : Nat} : ∀ (css : List (List Value)), (∀ l ∈ css, l.length = sz) → (css.flatMap id).length = css.length * sz := by
 intro css
 induction css with
 | nil => simp
 | cons l r ih => intro h; rw [List.flatMap_cons, List.length_append, ih (fun y hy => h y (by simp [hy])), List.length_cons, Nat.succ_mul]; have := h l (by simp); simp only [id]; omega
theorem qh8 {α : Type} (f : α → List Value) (Ok : α → Prop) {t e : TypeId} {sz : Nat} (ht : P.underlying t = some (.slice e)) (hsz : P.cellsOf e = sz) (h0 : 0 < sz) (hf : ∀ x, (f x).length = sz)
  (hE : ∀ m l y, DataW.trod enc P W 0 sp held m e l = some y → ∃ x, f x = l ∧ Ok x) {fuel : Nat} {cs : List Value} {x : DataW H × List MemPlace} (h : DataW.trod enc P W 0 sp held fuel t cs = some x) :
  ∃ (A : Option Addr) (c : Nat) (l : List α), cs = [.slice A l.length c] ∧ l.length ≤ c ∧ c ≤ maxLen ∧ (∀ x ∈ l, Ok x) ∧ Rd W W.heap.size sz A l.length (l.flatMap f) := by
 rcases DataW.trod_slice ht h with ⟨hc, _⟩ | ⟨a, len, cap, elems, rest, m, _, hc, _, _, hl, hm, hlen, hel, _⟩
 ·exact ⟨none, 0, [], hc, Nat.le_refl _, by unfold maxLen; omega, by simp, Rd.nil⟩
 ·have hall : ∀ i, i < len → ∃ x : α, W.cells? 0 (a.add (i * sz)) sz = some (f x) ∧ Ok x := by
   intro i hi
   have h1 := hel i hi
   rw [hsz, List.getElem?_eq_getElem (by omega : i < elems.length)] at h1
   obtain ⟨l, h2, h3⟩ := Option.bind_eq_some_iff.1 h1
   obtain ⟨x, rfl, hx⟩ := hE _ _ _ h3
   exact ⟨x, h2, hx⟩
  have key : ∀ k, k ≤ len → ∃ xs : List α, xs.length = k ∧ ∀ i (hi : i < xs.length), W.cells? 0 (a.add (i * sz)) sz = some (f xs[i]) ∧ Ok xs[i] := by
   intro k
   induction k with
   | zero => intro _; exact ⟨[], rfl, fun i hi => by simp at hi⟩
   | succ k ih =>
    intro hk
    obtain ⟨xs, h1, h2⟩ := ih (by omega)
    obtain ⟨x, h3, h4⟩ := hall k (by omega)
    refine ⟨xs ++ [x], by simp [h1], fun i hi => ?_⟩
    by_cases hik : i < xs.length
    ·rw [List.getElem_append_left hik]; exact h2 i hik
    ·obtain rfl : i = xs.length := by simp at hi; omega
     rw [List.getElem_append_right (Nat.le_refl _)]
     simp only [Nat.sub_self, List.getElem_cons_zero, h1]
     exact ⟨h3, h4⟩
  obtain ⟨xs, h1, h2⟩ := key len (Nat.le_refl _)
  have hfm : xs.flatMap f = (xs.map f).flatMap id := by rw [List.flatMap_map]; rfl
  have hll : ∀ l ∈ xs.map f, l.length = sz := fun l hl' => by obtain ⟨x, _, rfl⟩ := List.mem_map.1 hl'; exact hf x
  have hat : ∀ i (hi : i < xs.length) j, j < sz → W.cell? (a.add (i * sz + j)) = (f xs[i])[j]? := by
   intro i hi j hj
   have := (World.cells?_some (h2 i hi).1).2.2 j hj
   rwa [qjc] at this
  refine ⟨some a, cap, xs, by rw [hc, h1], by omega, hm, fun x hx => by obtain ⟨i, hi, rfl⟩ := List.getElem_of_mem hx; exact (h2 i hi).2, ⟨by rw [hfm, qq9 _ hll, List.length_map], fun hn => ⟨a, rfl, ?_, ?_⟩⟩⟩
  ·have h3 := hat 0 hn 0 h0
   have h4 := hf xs[0]
   rw [List.getElem?_eq_getElem (by omega)] at h3
   have := World.block_lt_of_cell? W _ h3
   simpa [Addr.add] using this
  ·intro p u hu
   rw [hfm] at hu
   obtain ⟨i, j, hi, hj, rfl, hu'⟩ := flat_get _ hll p u hu
   rw [List.length_map] at hi
   rw [hat i hi j hj, ← hu', List.getElem_map]
end
section
variable {H : Type} {enc : TypeId × Value → H} {W : World} {b0 : Nat} {v : Value} {d : DataW H} {p : List MemPlace}
end
end Go.Proofs.YtfeheccoijnbaaaDoor
namespace Go.Proofs.YtfeheccoijnbaaaDoor
open Go.RowKit
def qq : Nat → List Nat → List Bk × Nat × Nat
 | 0, _ => ([], 0, 0)
 | f + 1, l => if l.length = 0 then ([], 0, 0) else
  if (readB l).2.2 ≠ 0 then ([], 0, (readB l).2.2) else
   ((readB l).1 :: (qq f (l.drop (readB l).2.1)).1, (readB l).2.1 + (qq f (l.drop (readB l).2.1)).2.1, (qq f (l.drop (readB l).2.1)).2.2)
def qbo (l : List Nat) : List Bk × Nat × Nat := if 524288 < l.length then ([], 0, 3) else qq l.length l
theorem qed {f : Nat} {l : List Nat} (h : l.length = 0) : qq f l = ([], 0, 0) := by
 cases f with
 | zero => rfl
 | succ f => rw [qq, if_pos h]
theorem qg8 {f : Nat} {l : List Nat} {b : Bk} {m er : Nat} (hf : 0 < f) (h : 0 < l.length) (hq : readB l = (b, m, er)) (he : er ≠ 0) : qq f l = ([], 0, er) := by
 cases f with
 | zero => omega
 | succ f => rw [qq, if_neg (by omega), if_pos (by rw [hq]; exact he), hq]
theorem qdi {f : Nat} {l : List Nat} {b : Bk} {m : Nat} (hf : 0 < f) (h : 0 < l.length) (hq : readB l = (b, m, 0)) : qq f l = (b :: (qq (f - 1) (l.drop m)).1, m + (qq (f - 1) (l.drop m)).2.1, (qq (f - 1) (l.drop m)).2.2) := by
 cases f with
 | zero => omega
 | succ f => rw [qq, if_neg (by omega), if_neg (by rw [hq]; exact fun h => h rfl), hq]; rfl
def qfs (W : World) (lp : Nat) (Inv : List Nat → List Fact → Prop) (Stop : List Fact → Prop) : Prop :=
 ∀ (rest : List Nat) (F fr : List Fact) (w : World) (A : Option Addr) (c : Nat) (b : Bk) (m er : Nat), Inv rest F → readB rest = (b, m, er) → 0 < rest.length → (∀ x ∈ rest, x < 256) → b.evs.length ≤ c → Mem W w (.row (.slice A b.evs.length c) b.evs.length (b.evs.flatMap evL) 45 11 :: (F ++ fr)) →
  YieldAt Fence.wide 0 Tryd.prog lp #[.agg #[.int .u8 (b.kind : Int), .int .u8 (b.cpu : Int), .int .i64 b.lost, .int .i64 b.next, .slice A b.evs.length c, .int .i64 (m : Int)], .int .i64 (er : Int)] w fun e w' => ∃ F', Mem W w' (F' ++ fr) ∧ ((er = 0 ∧ e = .returned (.bool true) ∧ Inv (rest.drop m) F') ∨ (er ≠ 0 ∧ e = .returned (.bool false) ∧ Stop F'))
def qrb (W : World) (Inv : List Nat → List Fact → Prop) (Stop : List Fact → Prop) (r : Ending) (w' : World) : Prop := ∃ v, r = .returned v ∧ ∃ F', Mem W w' F' ∧ (Inv [] F' ∨ Stop F')
theorem qhk {W : World} {fr : List Fact} {er : Nat} {I S : List Fact → Prop} : ∀ (e : Ending) (w' : World), (∃ F', Mem W w' (F' ++ fr) ∧ ((er = 0 ∧ e = .returned (.bool true) ∧ I F') ∨ (er ≠ 0 ∧ e = .returned (.bool false) ∧ S F'))) → ∃ v, e = .returned v
 | _, _, ⟨_, _, .inl ⟨_, h, _⟩⟩ => ⟨_, h⟩
 | _, _, ⟨_, _, .inr ⟨_, h, _⟩⟩ => ⟨_, h⟩
theorem Rd.qxg {w : World} {B k c : Nat} {A : Option Addr} {l : List Nat} (h : Rd w B 1 A l.length (l.map B8)) (hk : k ≤ l.length) (hc : l.length ≤ c) : Rd w B 1 (if c = k then A else A.map (·.add (k * 1))) (l.drop k).length ((l.drop k).map B8) := by
 rw [List.length_drop]
 exact h.qnc hk hc
theorem qdw (A : Option Addr) (n c : Nat) (l : List It) (w : World) (hr : Rd w w.heap.size 12 A n (l.flatMap itL)) (hln : l.length = n) (hn : n ≤ 1000000) :
    Calls Tryd.prog 36 #[.slice A n c] w fun r w' => (∃ A c, r = .returned (.slice A n c) ∧ w'.ownsRow w.heap.size 45 11 (.slice A n c) n ((evsI l).flatMap evL) ∧ n ≤ c) ∧ Below w.heap.size w w' := by
 refine qg (vs := [.slice A n c]) Tryd.func36 rfl rfl (by kernel_rfl) (σ0 := [(0, .slice A n c)]) rfl ?_
 intro a HF
 have HM := Mem.start w
 refine wp_seq (qa ?_)
 refine fp HF 1 0 [(2, .slice none 0 0)] fun a HF => ?_
 refine qb rfl (wp_seq (qa ?_))
 refine fp HF 1 0 [(3, .slice none 0 0)] fun a HF => ?_
 refine qb rfl ?_
 replace HM := HM.nil 45 11
 refine wp_seq (wp_seq (qa ?_))
 refine fp HF 1 0 [(6, .slice A n c)] fun a HF => ?_
 refine fy HF HM 1 rfl rfl rfl (Yl.len rfl rfl (by kernel_rfl)) fun a HF => ?_
 refine fp HF 1 2 [(8, vI 0)] fun a HF => ?_
 refine qb rfl (wp_block ?_)
 refine zq (fun mS aS wS => ∃ (k : Nat) (Ak : Option Addr) (ck : Nat), (k ≤ n) ∧ (k ≤ ck) ∧ mS = n - k ∧ Fr aS 19 [] [(8, vI k), (7, vI n), (6, .slice A n c), (3, .slice Ak k ck), (2, .slice none 0 0)] ∧ Mem w wS [.row (.slice Ak k ck) k ((evsI (l.take k)).flatMap evL) 45 11]) (m := n - 0) ⟨0, none, 0, Nat.zero_le _, Nat.le_refl _, rfl, HF.sub (by kernel_rfl), HM.picks [0] (by decide) rfl⟩ ?_
 clear HF HM; rintro mS a w_ ⟨k, Ak, ck, hk, hck, rfl, HF, HM⟩
 refine wp_seq (qa ?_)
 refine fp HF 1 0 [(9, .bool (decide ((k : Int) < (n : Int))))] fun a HF => ?_
 refine qb rfl (wp_seq ?_)
 rcases HF.tf 9 rfl with ⟨hb9, HF⟩ | ⟨hb9, HF⟩
 ·
  have hd9 := of_decide_eq_true hb9
  have hk9 : k < n := by omega
  refine qf HF rfl (wp_skip (wp_seq (wp_block (wp_seq (qa ?_)))))
  obtain ⟨gA, oA, rfl, _⟩ := hr.qaj (Nat.lt_of_le_of_lt (Nat.zero_le _) (show k < n from by omega)) (by decide)
  refine fy HF HM 0 rfl rfl rfl (v := vP gA (oA + k * 12)) (Yl.ix gA oA k 12 rfl rfl rfl) fun a HF => ?_
  refine fy HF HM 1 rfl rfl rfl (v := .agg ((l.getD k It.zero).cells)) (Yl.zg rfl rfl si_it rfl (fun _ h => (h.old hr).qbv qcz ((getD_at It.zero (k := k) (by first | omega | (simp; omega)))))) fun a HF => ?_
  refine fo HF 2 rfl rfl ?_
  refine qr HF HM (cs := #[vI 0, vI 0, vB 0, vB 0, vI 0, vI 0, vI 0, vI 0, vI 0, vQ 0, vI 0, vI 0]) rfl (by kernel_rfl) rfl (by decide) ?_
  clear HF HM; intro a w5 g5 HF HM
  refine fo HF 3 rfl rfl ?_
  refine e_sa HF HM 0 rfl rfl rfl rfl rfl si_it rfl rfl (quf (l.getD k It.zero)) ?_
  clear HM; intro w4_3 HM
  refine qb rfl (qa ?_)
  refine fp HF 2 0 [(13, vP g5 0), (12, .slice Ak k ck)] fun a HF => ?_
  refine fy HF HM 2 rfl rfl rfl (v := .agg #[vI ((l.getD k It.zero).e.seq), vI ((l.getD k It.zero).e.time), vB ((l.getD k It.zero).e.cpu), vB ((l.getD k It.zero).e.kind), vI ((l.getD k It.zero).e.task), vI ((l.getD k It.zero).e.group), vI ((l.getD k It.zero).e.to), vI ((l.getD k It.zero).e.weight), vI ((l.getD k It.zero).e.ticks), vQ ((l.getD k It.zero).e.mask), vI ((l.getD k It.zero).e.got)]) (Yl.zg rfl rfl ⟨(by kernel_rfl), (by kernel_rfl)⟩ rfl (fun _ h => h.sub (i := 0) rfl 0 rfl)) fun a HF => ?_
  refine fo HF 3 rfl rfl ?_
  refine qan HF HM (vs := [(0, .agg #[vI ((l.getD k It.zero).e.seq), vI ((l.getD k It.zero).e.time), vB ((l.getD k It.zero).e.cpu), vB ((l.getD k It.zero).e.kind), vI ((l.getD k It.zero).e.task), vI ((l.getD k It.zero).e.group), vI ((l.getD k It.zero).e.to), vI ((l.getD k It.zero).e.weight), vI ((l.getD k It.zero).e.ticks), vQ ((l.getD k It.zero).e.mask), vI ((l.getD k It.zero).e.got)])]) (cs := #[vI ((l.getD k It.zero).e.seq), vI ((l.getD k It.zero).e.time), vB ((l.getD k It.zero).e.cpu), vB ((l.getD k It.zero).e.kind), vI ((l.getD k It.zero).e.task), vI ((l.getD k It.zero).e.group), vI ((l.getD k It.zero).e.to), vI ((l.getD k It.zero).e.weight), vI ((l.getD k It.zero).e.ticks), vQ ((l.getD k It.zero).e.mask), vI ((l.getD k It.zero).e.got)]) rfl ei_ev (by decide) rfl (by kernel_rfl) rfl (by decide) ?_
  clear HF HM; intro a w15 g15 HF HM
  refine fo HF 4 rfl rfl ?_
  refine zh HF HM (i := 2) rfl ei_ev rfl rfl rfl (news := (evL (l.getD k It.zero).e)) (HM.rdBlk (i := 0) (n := 1) (size := 11) rfl rfl) (qac _) (by omega) (by omega) rfl (by decide) ?_
  clear HF HM; intro a w16 A16 c16 HF HM hc16
  rw [show ((evsI (l.take k)).flatMap evL) ++ (evL (l.getD k It.zero).e) = ((evsI (l.take (k + 1))).flatMap evL) from by rw [qn5 (by omega)]] at HM
  refine fp HF 1 5 [(3, .slice A16 (k + 1) c16)] fun a HF => ?_
  refine qb rfl (qa ?_)
  refine fp HF 1 0 [(17, vI (IntKind.i64.wrap ((k : Int) + 1)))] fun a HF => ?_
  replace HF := HF.sp 17 (vI (k + 1 : Nat)) rfl (ql (by omega) (by omega))
  refine fp HF 1 1 [(8, vI (k + 1 : Nat))] fun a HF => ?_
  refine qb rfl ?_
  exact ⟨_, (by omega), k + 1, A16, c16, by omega, hc16, rfl, HF.sub (by kernel_rfl), HM.picks [2] (by decide) rfl⟩
 have hd9 := of_decide_eq_false hb9
 have hkn : k = n := by omega
 refine qe HF rfl (wp_exit (wp_seq (qa ?_)))
 refine fp HF 2 0 [(2, .slice Ak k ck)] fun a HF => ?_
 refine qb rfl (wp_ret ?_)
 exact ret1 rfl HF (.tmp HF rfl) (⟨⟨Ak, ck, by rw [hkn], by have h := HM.own (i := 0) rfl; rw [hkn, List.take_of_length_le (by omega)] at h; exact h, by omega⟩, HM.below⟩)
theorem qig (A : Option Addr) (n c : Nat) (l : List It) (w : World) (hr : Rd w w.heap.size 12 A n (l.flatMap itL)) (hln : l.length = n) (hn : n ≤ 1000000) :
    Calls Tryd.prog 37 #[.slice A n c] w fun r w' => (∃ A c, r = .returned (.slice A n c) ∧ w'.ownsRow w.heap.size 3 1 (.slice A n c) n ((befI l).map I64i) ∧ n ≤ c) ∧ Below w.heap.size w w' := by
 refine qg (vs := [.slice A n c]) Tryd.func37 rfl rfl (by kernel_rfl) (σ0 := [(0, .slice A n c)]) rfl ?_
 intro a HF
 have HM := Mem.start w
 refine wp_seq (qa ?_)
 refine fp HF 1 0 [(2, .slice none 0 0)] fun a HF => ?_
 refine qb rfl (wp_seq (qa ?_))
 refine fp HF 1 0 [(3, .slice none 0 0)] fun a HF => ?_
 refine qb rfl ?_
 replace HM := HM.nil 3 1
 refine wp_seq (wp_seq (qa ?_))
 refine fp HF 1 0 [(6, .slice A n c)] fun a HF => ?_
 refine fy HF HM 1 rfl rfl rfl (Yl.len rfl rfl (by kernel_rfl)) fun a HF => ?_
 refine fp HF 1 2 [(8, vI 0)] fun a HF => ?_
 refine qb rfl (wp_block ?_)
 refine zq (fun mS aS wS => ∃ (k : Nat) (Ak : Option Addr) (ck : Nat), (k ≤ n) ∧ (k ≤ ck) ∧ mS = n - k ∧ Fr aS 19 [] [(8, vI k), (7, vI n), (6, .slice A n c), (3, .slice Ak k ck), (2, .slice none 0 0)] ∧ Mem w wS [.row (.slice Ak k ck) k ((befI (l.take k)).map I64i) 3 1]) (m := n - 0) ⟨0, none, 0, Nat.zero_le _, Nat.le_refl _, rfl, HF.sub (by kernel_rfl), HM.picks [0] (by decide) rfl⟩ ?_
 clear HF HM; rintro mS a w_ ⟨k, Ak, ck, hk, hck, rfl, HF, HM⟩
 refine wp_seq (qa ?_)
 refine fp HF 1 0 [(9, .bool (decide ((k : Int) < (n : Int))))] fun a HF => ?_
 refine qb rfl (wp_seq ?_)
 rcases HF.tf 9 rfl with ⟨hb9, HF⟩ | ⟨hb9, HF⟩
 ·
  have hd9 := of_decide_eq_true hb9
  have hk9 : k < n := by omega
  refine qf HF rfl (wp_skip (wp_seq (wp_block (wp_seq (qa ?_)))))
  obtain ⟨gA, oA, rfl, _⟩ := hr.qaj (Nat.lt_of_le_of_lt (Nat.zero_le _) (show k < n from by omega)) (by decide)
  refine fy HF HM 0 rfl rfl rfl (v := vP gA (oA + k * 12)) (Yl.ix gA oA k 12 rfl rfl rfl) fun a HF => ?_
  refine fy HF HM 1 rfl rfl rfl (v := .agg ((l.getD k It.zero).cells)) (Yl.zg rfl rfl si_it rfl (fun _ h => (h.old hr).qbv qcz ((getD_at It.zero (k := k) (by first | omega | (simp; omega)))))) fun a HF => ?_
  refine fo HF 2 rfl rfl ?_
  refine qr HF HM (cs := #[vI 0, vI 0, vB 0, vB 0, vI 0, vI 0, vI 0, vI 0, vI 0, vQ 0, vI 0, vI 0]) rfl (by kernel_rfl) rfl (by decide) ?_
  clear HF HM; intro a w5 g5 HF HM
  refine fo HF 3 rfl rfl ?_
  refine e_sa HF HM 0 rfl rfl rfl rfl rfl si_it rfl rfl (quf (l.getD k It.zero)) ?_
  clear HM; intro w4_3 HM
  refine qb rfl (qa ?_)
  refine fp HF 2 0 [(13, vP g5 11), (12, .slice Ak k ck)] fun a HF => ?_
  refine fy HF HM 2 rfl rfl rfl (v := vI ((l.getD k It.zero).before)) (Yl.qh rfl rfl (by kernel_rfl) (fun _ h => h.cell (i := 0) rfl (rfl))) fun a HF => ?_
  refine fo HF 3 rfl rfl ?_
  refine qan HF HM (vs := [(0, vI ((l.getD k It.zero).before))]) (cs := #[vI ((l.getD k It.zero).before)]) rfl qmd (by decide) rfl (by kernel_rfl) rfl (by decide) ?_
  clear HF HM; intro a w15 g15 HF HM
  refine fo HF 4 rfl rfl ?_
  refine zh HF HM (i := 2) rfl qmd rfl rfl rfl (news := [I64i (l.getD k It.zero).before]) (HM.rdBlk (i := 0) (n := 1) (size := 1) rfl rfl) (by intro v hv; simp at hv; subst hv; rfl) (by omega) (by omega) rfl (by decide) ?_
  clear HF HM; intro a w16 A16 c16 HF HM hc16
  rw [show ((befI (l.take k)).map I64i) ++ [I64i (l.getD k It.zero).before] = ((befI (l.take (k + 1))).map I64i) from by rw [qn6 (by omega)]] at HM
  refine fp HF 1 5 [(3, .slice A16 (k + 1) c16)] fun a HF => ?_
  refine qb rfl (qa ?_)
  refine fp HF 1 0 [(17, vI (IntKind.i64.wrap ((k : Int) + 1)))] fun a HF => ?_
  replace HF := HF.sp 17 (vI (k + 1 : Nat)) rfl (ql (by omega) (by omega))
  refine fp HF 1 1 [(8, vI (k + 1 : Nat))] fun a HF => ?_
  refine qb rfl ?_
  exact ⟨_, (by omega), k + 1, A16, c16, by omega, hc16, rfl, HF.sub (by kernel_rfl), HM.picks [2] (by decide) rfl⟩
 have hd9 := of_decide_eq_false hb9
 have hkn : k = n := by omega
 refine qe HF rfl (wp_exit (wp_seq (qa ?_)))
 refine fp HF 2 0 [(2, .slice Ak k ck)] fun a HF => ?_
 refine qb rfl (wp_ret ?_)
 exact ret1 rfl HF (.tmp HF rfl) (⟨⟨Ak, ck, by rw [hkn], by have h := HM.own (i := 0) rfl; rw [hkn, List.take_of_length_le (by omega)] at h; exact h, by omega⟩, HM.below⟩)
theorem qma (cpu : Nat) (A : Option Addr) (n c : Nat) (l : List It) (opn : Int) (hok : ∀ x ∈ l, x.Ok) (ho : I64 opn) (B : Nat) (w : World) (hL : LaidX B w) (hB : B ≤ w.heap.size) (hr : Rd w w.heap.size 12 A n (l.flatMap itL)) (hln : l.length = n) (hn : n ≤ 1000000) :
    Calls Tryd.prog 34 #[.int .u8 (cpu : Int), .slice A n c, .int .i64 opn] w (Is w (.bool (zz cpu l opn))) := by
 refine qg (vs := [vB cpu, .slice A n c, vI opn]) Tryd.func34 rfl rfl (by kernel_rfl) (σ0 := [(0, vB cpu), (1, .slice A n c), (2, vI opn)]) rfl ?_
 intro a HF
 have HM := Mem.start w
 refine wp_seq (qa ?_)
 refine fp HF 1 0 [(6, .bool false)] fun a HF => ?_
 refine qb rfl (wp_seq (wp_seq (qa ?_)))
 refine fp HF 1 0 [(13, .slice A n c)] fun a HF => ?_
 refine fo HF 1 rfl rfl ?_
 refine e_cl HF [.slice A n c] rfl rfl (qdw A n c l _ (HM.old hr) (hln) (by omega)) ?_
 rintro _ w14 ⟨⟨A14, c14, rfl, ho, hc14⟩, hbw⟩
 refine ⟨_, rfl, ?_⟩
 replace HM := HM.callRow hbw ho
 clear HF; intro a HF
 refine fo HF 2 rfl rfl ?_
 refine e_cl HF [.slice A14 n c14] rfl rfl (qt5 A14 n c14 (evsI l) (qvk hok) B _ (hL.mem HM hB).laid (HM.le hB) (HM.rd (i := 0) rfl) (by omega) (i := (rowR (evsI l)).1) (er := (rowR (evsI l)).2) rfl) ?_
 rintro _ w15 ⟨rfl, hbw⟩
 refine ⟨_, rfl, ?_⟩
 replace HM := HM.call hbw
 clear HF; intro a HF
 refine fp HF 5 3 [(8, vI ((rowR (evsI l)).2))] fun a HF => ?_
 refine qb rfl (wp_seq (qa ?_))
 refine fp HF 2 0 [(19, .bool (((rowR (evsI l)).2 : Int) != (0 : Int)))] fun a HF => ?_
 refine qb rfl ?_
 rcases HF.tf 19 rfl with ⟨hb19, HF⟩ | ⟨hb19, HF⟩
 ·
  have hd19 := bne_iff_ne.1 hb19
  refine qf HF rfl (wp_seq (qa ?_))
  refine fp HF 1 0 [(6, .bool false)] fun a HF => ?_
  refine qb rfl (wp_ret ?_)
  replace HM := HM.picks (fs' := []) [] (by decide) rfl
  exact ret1 rfl HF (.tmp HF rfl) (⟨by rw [ql0 (by omega)], HM.below⟩)
 have hd19 := bne_eq_false_iff_eq.1 hb19
 refine qe HF rfl (wp_skip (wp_seq (qa ?_)))
 refine fp HF 1 0 [(9, vI 281474976710656)] fun a HF => ?_
 refine qb rfl (wp_seq (wp_seq (qa ?_)))
 refine fp HF 1 0 [(20, vI opn)] fun a HF => ?_
 refine fo HF 1 rfl rfl ?_
 refine qan HF HM (vs := [(0, vI opn)]) (cs := #[vI opn]) rfl qmd (by decide) rfl (by kernel_rfl) rfl (by decide) ?_
 clear HF HM; intro a w21 g21 HF HM
 refine fp HF 1 2 [(22, .slice A n c)] fun a HF => ?_
 refine fo HF 3 rfl rfl ?_
 refine e_cl HF [.slice A n c] rfl rfl (qig A n c l _ (HM.old hr) (hln) (by omega)) ?_
 rintro _ w23 ⟨⟨A23, c23, rfl, ho, hc23⟩, hbw⟩
 refine ⟨_, rfl, ?_⟩
 replace HM := HM.callRow hbw ho
 clear HF; intro a HF
 refine fo HF 4 rfl rfl ?_
 replace HM := HM.blkRow (i := 1) (n := 1) (size := 1) rfl rfl (by decide)
 refine zh HF HM (i := 1) rfl qmd rfl rfl rfl (news := ((befI l).map I64i)) (HM.rd (i := 0) rfl) (qte _) (by omega) (by omega) rfl (by decide) ?_
 clear HF HM; intro a w24 A24 c24 HF HM hc24
 rw [show ((#[vI opn]).toList) ++ ((befI l).map I64i) = (opn :: befI l).map I64i from rfl] at HM
 refine fy HF HM 5 rfl rfl rfl (Yl.len rfl rfl (by kernel_rfl)) fun a HF => ?_
 refine fp HF 1 6 [(26, vI 0)] fun a HF => ?_
 refine qb rfl ?_
 have hxl : (opn :: befI l).length = 1 + n := by rw [List.length_cons, qm1]; omega
 refine wp_block ?_
 replace HM := HM.picks (fs' := [.row (.slice A24 (1 + n) c24) (1 + n) ((opn :: befI l).map I64i) 3 1]) [1] (by decide) rfl
 refine zq (fun mS aS wS => ∃ (k : Nat) (r : Int), (k ≤ 1 + n) ∧ (0 ≤ r) ∧ (r ≤ 281474976710656) ∧ (qbn qdf (opn :: befI l) = qbn r ((opn :: befI l).drop k)) ∧ mS = 1 + n - k ∧ Fr aS 53 [] [(26, vI k), (25, vI (1 + n : Nat)), (24, .slice A24 (1 + n) c24), (9, vI r), (19, .bool false), (6, .bool false), (0, vB cpu), (1, .slice A n c)] ∧ Mem w wS [.row (.slice A24 (1 + n) c24) (1 + n) ((opn :: befI l).map I64i) 3 1]) (m := 1 + n - 0) ⟨0, 281474976710656, Nat.zero_le _, by omega, Int.le_refl _, rfl, rfl, HF.sub (by kernel_rfl), HM.picks [0] (by decide) rfl⟩ ?_
 clear HF HM; rintro mS a w_ ⟨k, r, hk, hr0, hr1, hroom, rfl, HF, HM⟩
 refine wp_seq (qa ?_)
 refine fp HF 1 0 [(27, .bool (decide ((k : Int) < ((1 + n : Nat) : Int))))] fun a HF => ?_
 refine qb rfl (wp_seq ?_)
 rcases HF.tf 27 rfl with ⟨hb27, HF⟩ | ⟨hb27, HF⟩
 ·
  have hd27 := of_decide_eq_true hb27
  have hk27 : k < 1 + n := by omega
  have hat := qq7 (xs := opn :: befI l) (k := k) (r := r) (by omega)
  refine qf HF rfl (wp_skip (wp_seq (wp_block (wp_seq (qa ?_)))))
  obtain ⟨gA24, rfl⟩ := qb6 (HM.own (i := 0) rfl) (Nat.lt_of_le_of_lt (Nat.zero_le _) (show k < 1 + n from by omega))
  refine fy HF HM 0 rfl rfl rfl (v := vP gA24 (k * 1)) (Yl.ix0 gA24 k 1 rfl rfl rfl) fun a HF => ?_
  refine fy HF HM 1 rfl rfl rfl (v := vI ((opn :: befI l).getD k 0)) (Yl.qh rfl rfl (by kernel_rfl) (fun _ h => h.qur (i := 0) rfl (k := k) (qa2 (F := I64i) (k := k) (x := ((opn :: befI l).getD k 0)) ((getD_at 0 (k := k) (by first | omega | (simp; omega))))))) fun a HF => ?_
  refine fp HF 1 2 [(11, vI ((opn :: befI l).getD k 0))] fun a HF => ?_
  refine qb rfl (wp_seq (wp_seq (qa ?_)))
  refine fp HF 3 0 [(32, .bool (decide ((((opn :: befI l).getD k 0) : Int) < (0 : Int))))] fun a HF => ?_
  rcases HF.tf 32 rfl with ⟨hb32, HF⟩ | ⟨hb32, HF⟩
  ·
   have hd32 := of_decide_eq_true hb32
   refine fp HF 4 3 [(36, .bool true)] fun a HF => ?_
   refine qb rfl (qf HF rfl (wp_seq (qa ?_)))
   refine fp HF 1 0 [(6, .bool false)] fun a HF => ?_
   refine qb rfl (wp_ret ?_)
   exact ret1 rfl HF (.tmp HF rfl) (⟨by rw [qf5 (by rw [hroom, hat, decide_eq_false (by omega), Bool.false_and])], HM.below⟩)
  have hd32 := of_decide_eq_false hb32
  refine fp HF 4 3 [(36, .bool (decide ((((opn :: befI l).getD k 0) : Int) > (r : Int))))] fun a HF => ?_
  refine qb rfl ?_
  rcases HF.tf 36 rfl with ⟨hb36, HF⟩ | ⟨hb36, HF⟩
  ·
   have hd36 := of_decide_eq_true hb36
   refine qf HF rfl (wp_seq (qa ?_))
   refine fp HF 1 0 [(6, .bool false)] fun a HF => ?_
   refine qb rfl (wp_ret ?_)
   exact ret1 rfl HF (.tmp HF rfl) (⟨by rw [qf5 (by rw [hroom, hat, decide_eq_false (by omega), Bool.false_and])], HM.below⟩)
  have hd36 := of_decide_eq_false hb36
  have hat2 : qbn qdf (opn :: befI l) = qbn (r - ((opn :: befI l).getD k 0)) ((opn :: befI l).drop (k + 1)) := by rw [hroom, hat, decide_eq_true ⟨by omega, by omega⟩, Bool.true_and]
  refine qe HF rfl (wp_skip (qa ?_))
  refine fp HF 3 0 [(39, vI (IntKind.i64.wrap (r - ((opn :: befI l).getD k 0))))] fun a HF => ?_
  replace HF := HF.sp 39 (vI (r - ((opn :: befI l).getD k 0))) rfl (qmo ⟨by omega, by omega⟩)
  refine fp HF 1 3 [(9, vI (r - ((opn :: befI l).getD k 0)))] fun a HF => ?_
  refine qb rfl (qa ?_)
  refine fp HF 1 0 [(40, vI (IntKind.i64.wrap ((k : Int) + 1)))] fun a HF => ?_
  replace HF := HF.sp 40 (vI (k + 1 : Nat)) rfl (ql (by omega) (by omega))
  refine fp HF 1 1 [(26, vI (k + 1 : Nat))] fun a HF => ?_
  refine qb rfl ?_
  exact ⟨_, (by omega), k + 1, (r - ((opn :: befI l).getD k 0)), by omega, by omega, by omega, hat2, rfl, HF.sub (by kernel_rfl), HM.picks [0] (by decide) rfl⟩
 have hd27 := of_decide_eq_false hb27
 have hkn : k = 1 + n := by omega
 have hrt : qbn qdf (opn :: befI l) = true := by rw [hroom, List.drop_of_length_le (by omega)]; rfl
 refine qe HF rfl (wp_exit (wp_seq (qa ?_)))
 refine fp HF 1 0 [(41, .slice A n c)] fun a HF => ?_
 refine fy HF HM 1 rfl rfl rfl (Yl.len rfl rfl (by kernel_rfl)) fun a HF => ?_
 refine fp HF 2 2 [(44, .bool ((n : Int) == (0 : Int)))] fun a HF => ?_
 rcases HF.tf 44 rfl with ⟨hb44, HF⟩ | ⟨hb44, HF⟩
 ·
  have hd44 := eq_of_beq hb44
  refine fp HF 9 4 [(6, .bool true)] fun a HF => ?_
  refine qb rfl (wp_ret ?_)
  exact ret1 rfl HF (.tmp HF rfl) (⟨by rw [qh7 (by omega) hrt, qq8 (by omega)], HM.below⟩)
 have hd44 := ne_of_beq_false hb44
 refine fp HF 1 4 [(45, .slice A n c)] fun a HF => ?_
 obtain ⟨gA, oA, rfl, _⟩ := hr.qaj (Nat.lt_of_le_of_lt (Nat.zero_le _) (show 0 < n from by omega)) (by decide)
 refine fy HF HM 5 rfl rfl rfl (v := vP gA oA) (Yl.indexAddr (ad := ⟨gA, oA, none⟩) (y := 0) (sz := 12) rfl rfl rfl (by omega) (by kernel_rfl)) fun a HF => ?_
 refine fp HF 2 6 [(48, vP gA (oA + 2))] fun a HF => ?_
 refine fy HF HM 8 rfl rfl rfl (v := vB ((l.getD 0 It.zero).e.cpu)) (Yl.qh rfl rfl (by kernel_rfl) (fun _ h => (h.old hr).partAt qcz (k := 0) (j := 2) (x := (l.getD 0 It.zero)) ((getD_at It.zero (k := 0) (by first | omega | (simp; omega)))) rfl)) fun a HF => ?_
 refine fp HF 4 9 [(6, .bool (((l.getD 0 It.zero).e.cpu : Int) == (cpu : Int)))] fun a HF => ?_
 refine qb rfl (wp_ret ?_)
 exact ret1 rfl HF (.tmp HF rfl) (⟨by rw [qh7 (by omega) hrt, qn7 (by omega)]; congr 2; rw [Bool.eq_iff_iff, beq_iff_eq, decide_eq_true_eq]; omega, HM.below⟩)
theorem qm9 (cpu : Nat) (A : Option Addr) (n c : Nat) (l : List It) (opn : Int) (k : Nat) (hG : GoodI cpu l opn) (hk : k ≤ n) (g1 g2 g3 : Nat) (w : World) (hg1 : w.heap[g1]? = some (.cells #[.int .u8 (cpu : Int)] 5 (0, 0))) (hg2 : w.heap[g2]? = some (.cells #[.slice A n c] 22 (0, 0))) (hg3 : w.heap[g3]? = some (.cells #[.int .i64 opn] 3 (0, 0))) (hr : Rd w w.heap.size 12 A l.length (l.flatMap itL)) (hc : n ≤ c) (hln : l.length = n) (hn : n ≤ 1000000) :
    Calls Tryd.prog 35 #[.int .i64 (k : Int), .pointer (some ⟨g1, 0, none⟩), .pointer (some ⟨g2, 0, none⟩), .pointer (some ⟨g3, 0, none⟩)] w (qw0 w (ofB cpu l opn k)) := by
 refine qg (vs := [vI k, vP g1 0, vP g2 0, vP g3 0]) Tryd.func35 rfl rfl (by kernel_rfl) (σ0 := [(0, vI k), (1, vP g1 0), (2, vP g2 0), (3, vP g3 0)]) rfl ?_
 intro a HF
 have HM := Mem.start w
 refine wp_seq (qa ?_)
 refine fo HF 0 rfl rfl ?_
 refine qr HF HM (cs := #[vB 0, vB 0, vI 0, vI 0, .slice none 0 0]) rfl (by kernel_rfl) rfl (by decide) ?_
 clear HF HM; intro a w5 g5 HF HM
 refine qb rfl ?_
 refine qba (fun aS wS => ∃ (A13 : Option Addr) (c13 : Nat) (g6 : Nat), Fr aS 40 [] [(6, vP g6 0), (5, vP g5 0), (0, vI k), (2, vP g2 0), (3, vP g3 0)] ∧ Mem w wS [.blk g6 #[vB 1, vB cpu, vI 0, vI 0, .slice A13 k c13] 41, .row (.slice A13 k c13) k ((evsI (l.take k)).flatMap evL) 45 11, .blk g5 #[vB 0, vB 0, vI 0, vI 0, .slice none 0 0] 41] ∧ (k ≤ c13)) ?_ ?_
 ·
  refine qad HM [.blk g5 #[vB 0, vB 0, vI 0, vI 0, .slice none 0 0] 41] [0] [7] fun HM HS => ?_
  refine ap HF (fun _ => HS) [2] #[false, false, true, false, false, false, false, false] [(11, vI k)] fun a HF => ?_
  refine ay HF HS 0 rfl rfl rfl (v := vB cpu) (Yl.qh rfl rfl (by kernel_rfl) (fun _ h => h.zf hg1 rfl)) fun a HF => ?_
  refine ay HF HS 1 rfl rfl rfl (v := .slice A n c) (Yl.qh rfl rfl (by kernel_rfl) (fun _ h => h.zf hg2 rfl)) fun a HF => ?_
  refine ay HF HS 3 rfl rfl rfl (v := .slice A k c) (Yl.qap ei_it (j := k) rfl rfl rfl (by omega)) fun a HF => ?_
  refine qi [4, 6] (by kernel_rfl) rfl ?_
  refine all_cons ?_ ?_
  ·refine qk HF (i := 4) rfl rfl ?_
   refine e_cl HF [.slice A k c] rfl rfl (qdw A k c (l.take k) _ (HM.old (Rd.qry qcz hr (by omega))) (by rw [List.length_take]; omega) (by omega)) ?_
   rintro _ w13 ⟨⟨A13, c13, rfl, ho, hc13⟩, hbw⟩
   refine ⟨_, rfl, ?_⟩
   replace HM := HM.callRow hbw ho
   clear HF; intro a HF
   refine keepS (HM.picks [1] (by decide) rfl) (fun HS => ?_)
   refine ay HF HS 5 rfl rfl rfl (v := .agg #[vB 1, vB cpu, vI 0, vI 0, .slice A13 k c13]) (Yl.build (vs := [(0, vB 1), (1, vB cpu), (4, .slice A13 k c13)]) rfl (by kernel_rfl) (by kernel_rfl)) fun a HF => ?_
   refine qi [6] (by kernel_rfl) rfl ?_
   refine all_cons ?_ all_nil
   refine qk HF (i := 6) rfl rfl ?_
   refine qr HF HM (cs := #[vB 0, vB 0, vI 0, vI 0, .slice none 0 0]) rfl (by kernel_rfl) rfl (by decide) ?_
   clear HF HM; intro a w6 g6 HF HM
   refine keepS (HM.picks [2] (by decide) rfl) (fun HS => ?_)
   refine qi [7] (by kernel_rfl) rfl ?_
   refine all_cons ?_ all_nil
   refine qk HF (i := 7) rfl rfl ?_
   refine e_sa HF HM 0 rfl rfl rfl rfl rfl si_bk rfl rfl (by simp [Value.oneCell']) ?_
   clear HM; intro w1_7 HM
   refine noS (by kernel_rfl) ?_
   refine qn (by kernel_rfl) ?_
   exact ⟨A13, c13, g6, HF.sub (by kernel_rfl), HM.picks [0, 1, 2] (by decide) rfl, hc13⟩
  refine all_cons ?_ all_nil
  refine qk HF (i := 6) rfl rfl ?_
  refine qr HF HM (cs := #[vB 0, vB 0, vI 0, vI 0, .slice none 0 0]) rfl (by kernel_rfl) rfl (by decide) ?_
  clear HF HM; intro a w6 g6 HF HM
  refine keepS (HM.picks [1] (by decide) rfl) (fun HS => ?_)
  refine qi [4] (by kernel_rfl) rfl ?_
  refine all_cons ?_ all_nil
  refine qk HF (i := 4) rfl rfl ?_
  refine e_cl HF [.slice A k c] rfl rfl (qdw A k c (l.take k) _ (HM.old (Rd.qry qcz hr (by omega))) (by rw [List.length_take]; omega) (by omega)) ?_
  rintro _ w13 ⟨⟨A13, c13, rfl, ho, hc13⟩, hbw⟩
  refine ⟨_, rfl, ?_⟩
  replace HM := HM.callRow hbw ho
  clear HF; intro a HF
  refine keepS (HM.picks [2] (by decide) rfl) (fun HS => ?_)
  refine ay HF HS 5 rfl rfl rfl (v := .agg #[vB 1, vB cpu, vI 0, vI 0, .slice A13 k c13]) (Yl.build (vs := [(0, vB 1), (1, vB cpu), (4, .slice A13 k c13)]) rfl (by kernel_rfl) (by kernel_rfl)) fun a HF => ?_
  refine qi [7] (by kernel_rfl) rfl ?_
  refine all_cons ?_ all_nil
  refine qk HF (i := 7) rfl rfl ?_
  refine e_sa HF HM 1 rfl rfl rfl rfl rfl si_bk rfl rfl (by simp [Value.oneCell']) ?_
  clear HM; intro w1_7 HM
  refine noS (by kernel_rfl) ?_
  refine qn (by kernel_rfl) ?_
  exact ⟨A13, c13, g6, HF.sub (by kernel_rfl), HM.picks [1, 0, 2] (by decide) rfl, hc13⟩
 clear HF HM; rintro a w1 ⟨A13, c13, g6, HF, HM, hc13⟩
 refine wp_seq (wp_seq (qa ?_))
 refine fy HF HM 0 rfl rfl rfl (v := .slice A n c) (Yl.qh rfl rfl (by kernel_rfl) (fun _ h => h.zf hg2 rfl)) fun a HF => ?_
 refine fp HF 1 1 [(16, vI k)] fun a HF => ?_
 refine fy HF HM 2 rfl rfl rfl (v := .slice A k c) (Yl.qap ei_it (j := k) rfl rfl rfl (by omega)) fun a HF => ?_
 refine fo HF 3 rfl rfl ?_
 refine e_cl HF [.slice A k c] rfl rfl (qig A k c (l.take k) _ (HM.old (Rd.qry qcz hr (by omega))) (by rw [List.length_take]; omega) (by omega)) ?_
 rintro _ w18 ⟨⟨A18, c18, rfl, ho, hc18⟩, hbw⟩
 refine ⟨_, rfl, ?_⟩
 replace HM := HM.callRow hbw ho
 clear HF; intro a HF
 refine fy HF HM 4 rfl rfl rfl (Yl.len rfl rfl (by kernel_rfl)) fun a HF => ?_
 refine fp HF 1 5 [(20, vI 0)] fun a HF => ?_
 refine qb rfl ?_
 have hbl : (befI (l.take k)).length = k := by rw [qm1, List.length_take]; omega
 refine wp_block ?_
 refine zq (fun mS aS wS => ∃ (j : Nat), (j ≤ k) ∧ mS = k - j ∧ Fr aS 40 [] [(20, vI j), (19, vI k), (18, .slice A18 k c18), (6, vP g6 0), (5, vP g5 0), (0, vI k), (2, vP g2 0), (3, vP g3 0)] ∧ Mem w wS [.row (.slice A18 k c18) k ((befI (l.take k)).map I64i) 3 1, .blk g6 #[vB 1, vB cpu, vI (sumI (befI (l.take j))), vI 0, .slice A13 k c13] 41, .row (.slice A13 k c13) k ((evsI (l.take k)).flatMap evL) 45 11, .blk g5 #[vB 0, vB 0, vI 0, vI 0, .slice none 0 0] 41]) (m := k - 0) ⟨0, Nat.zero_le _, rfl, HF.sub (by kernel_rfl), HM.picks [0, 1, 2, 3] (by decide) rfl⟩ ?_
 clear HF HM; rintro mS a w_ ⟨j, hj, rfl, HF, HM⟩
 refine wp_seq (qa ?_)
 refine fp HF 1 0 [(21, .bool (decide ((j : Int) < (k : Int))))] fun a HF => ?_
 refine qb rfl (wp_seq ?_)
 rcases HF.tf 21 rfl with ⟨hb21, HF⟩ | ⟨hb21, HF⟩
 ·
  have hd21 := of_decide_eq_true hb21
  have hj21 : j < k := by omega
  have ho0 := hG.o0
  have hp0 := hG.part j
  have hp1 := hG.part (j + 1)
  have hps := qg5 (l := l) (k := k) (j := j) (by omega) (by omega)
  refine qf HF rfl (wp_skip (wp_seq (wp_block (wp_seq (qa ?_)))))
  obtain ⟨gA18, rfl⟩ := qb6 (HM.own (i := 0) rfl) (Nat.lt_of_le_of_lt (Nat.zero_le _) (show j < k from by omega))
  refine fy HF HM 0 rfl rfl rfl (v := vP gA18 (j * 1)) (Yl.ix0 gA18 j 1 rfl rfl rfl) fun a HF => ?_
  refine fy HF HM 1 rfl rfl rfl (v := vI ((befI (l.take k)).getD j 0)) (Yl.qh rfl rfl (by kernel_rfl) (fun _ h => h.qur (i := 0) rfl (k := j) (qa2 (F := I64i) (k := j) (x := ((befI (l.take k)).getD j 0)) ((getD_at 0 (k := j) (by first | omega | (simp; omega))))))) fun a HF => ?_
  refine fp HF 1 2 [(8, vI ((befI (l.take k)).getD j 0))] fun a HF => ?_
  refine qb rfl (qa ?_)
  refine fp HF 1 0 [(24, vP g6 2)] fun a HF => ?_
  refine fy HF HM 1 rfl rfl rfl (Yl.qh rfl rfl (by kernel_rfl) (fun _ h => h.cell (i := 1) rfl rfl)) fun a HF => ?_
  refine fp HF 2 2 [(27, vI (IntKind.i64.wrap ((sumI (befI (l.take j))) + ((befI (l.take k)).getD j 0))))] fun a HF => ?_
  replace HF := HF.sp 27 (vI (sumI (befI (l.take (j + 1))))) rfl (by rw [qg5 (k := k) (by omega) (by omega)]; exact qmo ⟨by omega, by omega⟩)
  refine fp HF 1 4 [(28, vP g6 2)] fun a HF => ?_
  refine fo HF 5 rfl rfl ?_
  refine qo HF HM (i := 1) (cs := #[vB 1, vB cpu, vI (sumI (befI (l.take j))), vI 0, .slice A13 k c13]) rfl rfl rfl rfl (by kernel_rfl) rfl rfl (by simp) ?_
  clear HM; intro w5_5 HM
  refine qb rfl (qa ?_)
  refine fp HF 1 0 [(29, vI (IntKind.i64.wrap ((j : Int) + 1)))] fun a HF => ?_
  replace HF := HF.sp 29 (vI (j + 1 : Nat)) rfl (ql (by omega) (by omega))
  refine fp HF 1 1 [(20, vI (j + 1 : Nat))] fun a HF => ?_
  refine qb rfl ?_
  exact ⟨_, (by omega), j + 1, by omega, rfl, HF.sub (by kernel_rfl), HM.picks [0, 1, 2, 3] (by decide) rfl⟩
 have hd21 := of_decide_eq_false hb21
 obtain rfl : j = k := by omega
 have hp0 := hG.part j
 have ho0 := hG.o0
 refine qe HF rfl (wp_exit (wp_seq (wp_seq (qa ?_))))
 refine fp HF 1 0 [(30, vI j)] fun a HF => ?_
 refine fy HF HM 1 rfl rfl rfl (v := .slice A n c) (Yl.qh rfl rfl (by kernel_rfl) (fun _ h => h.zf hg2 rfl)) fun a HF => ?_
 refine fy HF HM 2 rfl rfl rfl (Yl.len rfl rfl (by kernel_rfl)) fun a HF => ?_
 refine fp HF 1 3 [(33, .bool ((j : Int) == (n : Int)))] fun a HF => ?_
 refine qb rfl ?_
 rcases HF.tf 33 rfl with ⟨hb33, HF⟩ | ⟨hb33, HF⟩
 ·
  have hd33 := eq_of_beq hb33
  have hlo := qvl (cpu := cpu) (opn := opn) (l := l) (k := j) (by omega)
  refine qf HF rfl (qa ?_)
  refine fp HF 1 0 [(34, vP g6 2)] fun a HF => ?_
  refine fy HF HM 1 rfl rfl rfl (Yl.qh rfl rfl (by kernel_rfl) (fun _ h => h.cell (i := 1) rfl rfl)) fun a HF => ?_
  refine fy HF HM 2 rfl rfl rfl (v := vI opn) (Yl.qh rfl rfl (by kernel_rfl) (fun _ h => h.zf hg3 rfl)) fun a HF => ?_
  refine fp HF 1 3 [(37, vI (IntKind.i64.wrap ((sumI (befI (l.take j))) + opn)))] fun a HF => ?_
  replace HF := HF.sp 37 (vI ((sumI (befI (l.take j))) + opn)) rfl (qmo ⟨by omega, by omega⟩)
  refine fp HF 1 4 [(38, vP g6 2)] fun a HF => ?_
  refine fo HF 5 rfl rfl ?_
  refine qo HF HM (i := 1) (cs := #[vB 1, vB cpu, vI (sumI (befI (l.take j))), vI 0, .slice A13 j c13]) rfl rfl rfl rfl (by kernel_rfl) rfl rfl (by simp) ?_
  clear HM; intro w8_5 HM
  refine qb rfl (wp_seq (qa ?_))
  refine fy HF HM 0 rfl rfl rfl (v := .agg #[vB 1, vB cpu, vI ((sumI (befI (l.take j))) + opn), vI 0, .slice A13 j c13]) (Yl.zg rfl rfl si_bk rfl (fun _ h => qd (h.blk (i := 1) rfl))) fun a HF => ?_
  refine fo HF 1 rfl rfl ?_
  refine e_sa HF HM 3 rfl rfl rfl rfl rfl si_bk rfl rfl (by simp [Value.oneCell']) ?_
  clear HM; intro w9_1 HM
  refine qb rfl (wp_ret ?_)
  exact ret1 rfl HF (.cellS (i := 3) HF HM rfl rfl si_bk rfl) (⟨⟨A13, c13, by rw [← qkh (by omega) (by rw [hlo])], by rw [qec (by omega)]; exact HM.own (i := 2) rfl, by rw [qec (by omega)]; omega⟩, HM.below⟩)
 have hd33 := ne_of_beq_false hb33
 have hlo := qvm (cpu := cpu) (opn := opn) (l := l) (k := j) (by omega)
 refine qe HF rfl (wp_skip (wp_seq (qa ?_)))
 refine fy HF HM 0 rfl rfl rfl (v := .agg #[vB 1, vB cpu, vI (sumI (befI (l.take j))), vI 0, .slice A13 j c13]) (Yl.zg rfl rfl si_bk rfl (fun _ h => qd (h.blk (i := 1) rfl))) fun a HF => ?_
 refine fo HF 1 rfl rfl ?_
 refine e_sa HF HM 3 rfl rfl rfl rfl rfl si_bk rfl rfl (by simp [Value.oneCell']) ?_
 clear HM; intro w9_1 HM
 refine qb rfl (wp_ret ?_)
 exact ret1 rfl HF (.cellS (i := 3) HF HM rfl rfl si_bk rfl) (⟨⟨A13, c13, by rw [← qkh (by omega) (by rw [hlo])], by rw [qec (by omega)]; exact HM.own (i := 2) rfl, by rw [qec (by omega)]; omega⟩, HM.below⟩)
theorem qk0 (A : Option Addr) (n c : Nat) (l : List It) (w : World) (hr : Rd w w.heap.size 12 A n (l.flatMap itL)) (hln : l.length = n) (hn : n ≤ 1000000) :
  Calls Tryd.prog 36 #[.slice A n c] w fun r w' => (∃ A c, r = .returned (.slice A (evsI l).length c) ∧ w'.ownsRow w.heap.size 45 11 (.slice A (evsI l).length c) (evsI l).length ((evsI l).flatMap evL) ∧ (evsI l).length ≤ c) ∧ Below w.heap.size w w' := by
 have e : (evsI l).length = n := by rw [qe2]; exact hln
 rw [e]
 exact qdw A n c l w hr hln hn
theorem qtq (b : Bk) (hok : b.Ok) (hf : b.fits = true) (A : Option Addr) (c B : Nat) (w : World) (hL : LaidX B w) (hB : B ≤ w.heap.size) (hr : Rd w w.heap.size 11 A b.evs.length (b.evs.flatMap evL)) (hn : b.evs.length ≤ 1000000) :
  Calls Tryd.prog 38 #[.agg (b.cells A c)] w (Is w (.tuple #[.int .i64 (b.qdz : Int), .int .i64 0])) := by
 have h := qrs b hok A c B w hL hB hr hn
 unfold Bk.fill at h
 rwa [if_neg (by rw [hf]; decide)] at h
theorem qrt (cpu : Nat) (hcpu : cpu < 256) (A : Option Addr) (n c : Nat) (l : List It) (opn limit : Int) (hok : ∀ x ∈ l, x.Ok) (ho : I64 opn) (hlm : I64 limit) (B : Nat) (w : World) (hL : LaidX B w) (hB : B ≤ w.heap.size) (hr : Rd w w.heap.size 12 A n (l.flatMap itL)) (hc : n ≤ c) (hln : l.length = n) (hn : n ≤ 1000000) :
    Calls Tryd.prog 12 #[.int .u8 (cpu : Int), .slice A n c, .int .i64 opn, .int .i64 limit] w (qf4 45 41 w (cutS cpu l opn limit).2 (cutS cpu l opn limit).1) := by
 subst hln
 refine qg (vs := [vB cpu, .slice A l.length c, vI opn, vI limit]) Tryd.func12 rfl rfl (by kernel_rfl) (σ0 := [(0, vB cpu), (1, .slice A l.length c), (2, vI opn), (3, vI limit)]) rfl ?_
 intro a HF
 have HM := Mem.start w
 refine wp_seq (qa ?_)
 refine fo HF 0 rfl rfl ?_
 refine e_box HF HM (cs := #[vB cpu]) rfl rfl rfl rfl (by decide) ?_
 clear HF HM; intro a w4 g4 HF HM
 refine fo HF 1 rfl rfl ?_
 refine e_box HF HM (cs := #[.slice A l.length c]) rfl rfl rfl rfl (by decide) ?_
 clear HF HM; intro a w5 g5 HF HM
 refine fo HF 2 rfl rfl ?_
 refine e_box HF HM (cs := #[vI opn]) rfl rfl rfl rfl (by decide) ?_
 clear HF HM; intro a w6 g6 HF HM
 refine fp HF 2 3 [(9, vI 0), (8, .slice none 0 0)] fun a HF => ?_
 refine qb rfl (wp_seq (wp_block (wp_seq (qa ?_))))
 refine fy HF HM 0 rfl rfl rfl (Yl.qh rfl rfl (by kernel_rfl) (fun _ h => h.cell (i := 2) rfl rfl)) fun a HF => ?_
 refine fp HF 2 1 [(17, .bool (decide ((cpu : Int) ≥ (64 : Int))))] fun a HF => ?_
 rcases HF.tf 17 rfl with ⟨hb17, HF⟩ | ⟨hb17, HF⟩
 ·
  have hd17 := of_decide_eq_true hb17
  refine fp HF 8 3 [(14, .bool true)] fun a HF => ?_
  refine qb rfl (qf HF rfl (wp_seq (qa ?_)))
  refine fp HF 2 0 [(9, vI 2), (8, .slice none 0 0)] fun a HF => ?_
  refine qb rfl (wp_ret ?_)
  exact ret2 rfl HF (.tmp HF rfl) (.tmp HF rfl) (by rw [qi5 (by omega)]; exact qdt HM rfl)
 have hd17 := of_decide_eq_false hb17
 refine fp HF 4 3 [(21, .bool (decide ((limit : Int) < (1 : Int))))] fun a HF => ?_
 rcases HF.tf 21 rfl with ⟨hb21, HF⟩ | ⟨hb21, HF⟩
 ·
  have hd21 := of_decide_eq_true hb21
  refine fp HF 4 7 [(14, .bool true)] fun a HF => ?_
  refine qb rfl (qf HF rfl (wp_seq (qa ?_)))
  refine fp HF 2 0 [(9, vI 2), (8, .slice none 0 0)] fun a HF => ?_
  refine qb rfl (wp_ret ?_)
  exact ret2 rfl HF (.tmp HF rfl) (.tmp HF rfl) (by rw [qi5 (by omega)]; exact qdt HM rfl)
 have hd21 := of_decide_eq_false hb21
 refine fp HF 4 7 [(14, .bool (decide ((limit : Int) > (4096 : Int))))] fun a HF => ?_
 refine qb rfl ?_
 rcases HF.tf 14 rfl with ⟨hb14, HF⟩ | ⟨hb14, HF⟩
 ·
  have hd14 := of_decide_eq_true hb14
  refine qf HF rfl (wp_seq (qa ?_))
  refine fp HF 2 0 [(9, vI 2), (8, .slice none 0 0)] fun a HF => ?_
  refine qb rfl (wp_ret ?_)
  exact ret2 rfl HF (.tmp HF rfl) (.tmp HF rfl) (by rw [qi5 (by omega)]; exact qdt HM rfl)
 have hd14 := of_decide_eq_false hb14
 refine qe HF rfl (wp_seq (qa ?_))
 refine fy HF HM 0 rfl rfl rfl (Yl.qh rfl rfl (by kernel_rfl) (fun _ h => h.cell (i := 2) rfl rfl)) fun a HF => ?_
 refine fy HF HM 1 rfl rfl rfl (Yl.qh rfl rfl (by kernel_rfl) (fun _ h => h.cell (i := 1) rfl rfl)) fun a HF => ?_
 refine fy HF HM 2 rfl rfl rfl (Yl.qh rfl rfl (by kernel_rfl) (fun _ h => h.cell (i := 0) rfl rfl)) fun a HF => ?_
 refine fo HF 3 rfl rfl ?_
 refine e_is HF HM [vB cpu, .slice A l.length c, vI opn] (.bool (zz cpu l opn)) rfl rfl (qma cpu A l.length c l opn hok ho B _ (hL.mem HM hB) (HM.le hB) (HM.old hr) rfl (by omega)) fun w29 hbw HM a HF => ?_
 refine fp HF 2 4 [(25, .bool (!(zz cpu l opn)))] fun a HF => ?_
 refine qb rfl ?_
 rcases HF.tf 25 rfl with ⟨hb25, HF⟩ | ⟨hb25, HF⟩
 ·
  have hbad : zz cpu l opn = false := by simpa using hb25
  refine qf HF rfl (wp_seq (qa ?_))
  refine fp HF 2 0 [(9, vI 110), (8, .slice none 0 0)] fun a HF => ?_
  refine qb rfl (wp_ret ?_)
  exact ret2 rfl HF (.tmp HF rfl) (.tmp HF rfl) (by rw [qn4 (by omega) hbad]; exact qdt HM rfl)
 have hgood : zz cpu l opn = true := by simpa using hb25
 have hG := GoodI.of (by omega) hok hgood
 refine qe HF rfl (wp_seq (qa ?_))
 refine fy HF HM 0 rfl rfl rfl (Yl.qh rfl rfl (by kernel_rfl) (fun _ h => h.cell (i := 1) rfl rfl)) fun a HF => ?_
 refine fy HF HM 1 rfl rfl rfl (Yl.len rfl rfl (by kernel_rfl)) fun a HF => ?_
 refine fp HF 2 2 [(35, .bool ((l.length : Int) == (0 : Int)))] fun a HF => ?_
 rcases HF.tf 35 rfl with ⟨hb35, HF⟩ | ⟨hb35, HF⟩
 ·
  have hd35 := eq_of_beq hb35
  refine fy HF HM 4 rfl rfl rfl (Yl.qh rfl rfl (by kernel_rfl) (fun _ h => h.cell (i := 0) rfl rfl)) fun a HF => ?_
  refine fp HF 3 5 [(31, .bool ((opn : Int) == (0 : Int)))] fun a HF => ?_
  refine qb rfl ?_
  rcases HF.tf 31 rfl with ⟨hb31, HF⟩ | ⟨hb31, HF⟩
  ·
   have hd31 := eq_of_beq hb31
   refine qf HF rfl (wp_seq (qa ?_))
   refine fp HF 2 0 [(9, vI 0), (8, .slice none 0 0)] fun a HF => ?_
   refine qb rfl (wp_ret ?_)
   exact ret2 rfl HF (.tmp HF rfl) (.tmp HF rfl) (by rw [qq4 (by omega) hgood (by omega) (by omega)]; exact qdt HM rfl)
  have hd31 := ne_of_beq_false hb31
  refine qe HF rfl (wp_seq (qa ?_))
  refine fy HF HM 0 rfl rfl rfl (Yl.qh rfl rfl (by kernel_rfl) (fun _ h => h.cell (i := 1) rfl rfl)) fun a HF => ?_
  refine fy HF HM 1 rfl rfl rfl (Yl.len rfl rfl (by kernel_rfl)) fun a HF => ?_
  refine fp HF 2 2 [(39, .bool ((l.length : Int) == (0 : Int)))] fun a HF => ?_
  refine qb rfl ?_
  rcases HF.tf 39 rfl with ⟨hb39, HF⟩ | ⟨hb39, HF⟩
  ·
   have hd39 := eq_of_beq hb39
   refine qf HF rfl (wp_seq (qa ?_))
   refine fy HF HM 0 rfl rfl rfl (Yl.qh rfl rfl (by kernel_rfl) (fun _ h => h.cell (i := 2) rfl rfl)) fun a HF => ?_
   refine fy HF HM 1 rfl rfl rfl (Yl.qh rfl rfl (by kernel_rfl) (fun _ h => h.cell (i := 0) rfl rfl)) fun a HF => ?_
   refine fy HF HM 2 rfl rfl rfl (v := .agg #[vB 1, vB cpu, vI opn, vI 0, .slice none 0 0]) (Yl.build (vs := [(0, vB 1), (1, vB cpu), (2, vI opn)]) rfl (by kernel_rfl) (by kernel_rfl)) fun a HF => ?_
   refine fo HF 3 rfl rfl ?_
   refine qan HF HM (vs := [(0, .agg #[vB 1, vB cpu, vI opn, vI 0, .slice none 0 0])]) (cs := #[vB 1, vB cpu, vI opn, vI 0, .slice none 0 0]) rfl qbr (by decide) rfl (by kernel_rfl) rfl (by decide) ?_
   clear HF HM; intro a w46 g46 HF HM
   refine fp HF 2 4 [(9, vI 0), (8, vS g46 1 1)] fun a HF => ?_
   refine qb rfl (wp_ret ?_)
   exact ret2 rfl HF (.tmp HF rfl) (.tmp HF rfl) (by rw [qq5 (by omega) hgood (by omega) (by omega)]; exact qsy HM (i := 0) rfl)
  have hd39 := ne_of_beq_false hb39
  exfalso; omega
 have hd35 := ne_of_beq_false hb35
 refine fp HF 4 4 [(31, .bool false)] fun a HF => ?_
 refine qb rfl (qe HF rfl (wp_seq (qa ?_)))
 refine fy HF HM 0 rfl rfl rfl (Yl.qh rfl rfl (by kernel_rfl) (fun _ h => h.cell (i := 1) rfl rfl)) fun a HF => ?_
 refine fy HF HM 1 rfl rfl rfl (Yl.len rfl rfl (by kernel_rfl)) fun a HF => ?_
 refine fp HF 2 2 [(39, .bool ((l.length : Int) == (0 : Int)))] fun a HF => ?_
 refine qb rfl ?_
 rcases HF.tf 39 rfl with ⟨hb39, HF⟩ | ⟨hb39, HF⟩
 ·
  have hd39 := eq_of_beq hb39
  exfalso; omega
 have hd39 := ne_of_beq_false hb39
 refine qe HF rfl (wp_skip (wp_seq (qa ?_)))
 refine fy HF HM 0 rfl rfl rfl (v := .func (.func 35) #[] #[vP g4 0, vP g5 0, vP g6 0]) (Yl.makeFunc (fst := []) (caps := [vP g4 0, vP g5 0, vP g6 0]) rfl rfl rfl) fun a HF => ?_
 refine fp HF 1 1 [(10, .func (.func 35) #[] #[vP g4 0, vP g5 0, vP g6 0])] fun a HF => ?_
 refine qb rfl (wp_seq (qa ?_))
 refine fp HF 1 0 [(11, .slice none 0 0)] fun a HF => ?_
 refine qb rfl ?_
 obtain ⟨lim, rfl⟩ : ∃ k : Nat, limit = (k : Int) := ⟨limit.toNat, by omega⟩
 replace HM := HM.nil 41 5
 replace HM : Mem w _ (.row (.slice none 0 0) 0 [] 41 5 :: .blk g6 #[vI opn] 3 :: .blk g5 #[.slice A l.length c] 22 :: .blk g4 #[vB cpu] 5 :: hbF 45 []) := HM
 refine wp_seq (wp_block ?_)
 refine zq (fun mS aS wS => ∃ (r : List It) (X : Option Addr) (cc : Nat) (q : List Hb) (f : Nat) (Ao : Option Addr) (co : Nat), (Rd w w.heap.size 12 X r.length (r.flatMap itL)) ∧ (r.length ≤ cc) ∧ (GoodI cpu r opn) ∧ (r.length ≤ l.length) ∧ (r.length ≤ f) ∧ (q.map Hb.b ++ cutGo cpu opn lim f r = cutGo cpu opn lim l.length l) ∧ (q.length ≤ co) ∧ (q.length + r.length ≤ l.length) ∧ mS = r.length ∧ Fr aS 87 [] [(11, .slice Ao q.length co), (10, .func (.func 35) #[] #[vP g4 0, vP g5 0, vP g6 0]), (39, .bool false), (31, .bool false), (25, .bool false), (14, .bool false), (9, vI 0), (8, .slice none 0 0), (6, vP g6 0), (5, vP g5 0), (4, vP g4 0), (3, vI lim)] ∧ Mem w wS (.row (.slice Ao q.length co) q.length (q.flatMap hbL) 41 5 :: .blk g6 #[vI opn] 3 :: .blk g5 #[.slice X r.length cc] 22 :: .blk g4 #[vB cpu] 5 :: hbF 45 q)) (m := l.length) ⟨l, A, c, [], l.length, none, 0, hr, by omega, hG, by omega, Nat.le_refl _, List.nil_append _, Nat.le_refl _, by simp, rfl, HF.sub (by kernel_rfl), HM.picksT 4 [0, 1, 2, 3] (by decide) (by decide) rfl⟩ ?_
 clear HF HM; rintro mS a w_ ⟨r, X, cc, q, f, Ao, co, hX, hcc, hGr, hrn, hf, hq, hco, hql, rfl, HF, HM⟩
 refine wp_seq (wp_seq (qa ?_))
 refine fy HF HM 0 rfl rfl rfl (Yl.qh rfl rfl (by kernel_rfl) (fun _ h => h.cell (i := 2) rfl rfl)) fun a HF => ?_
 refine fy HF HM 1 rfl rfl rfl (Yl.len rfl rfl (by kernel_rfl)) fun a HF => ?_
 refine fp HF 1 2 [(50, .bool (decide ((r.length : Int) > (0 : Int))))] fun a HF => ?_
 refine qb rfl ?_
 rcases HF.tf 50 rfl with ⟨hb50, HF⟩ | ⟨hb50, HF⟩
 ·
  have hd50 := of_decide_eq_true hb50
  have hr0 : 0 < r.length := by omega
  obtain ⟨m0, hm0⟩ : ∃ m, m = min r.length lim := ⟨_, rfl⟩
  obtain ⟨hmf, hmo, hmb, hmp, hma⟩ := qh6 hGr (m := m0) (by omega) (by omega)
  have hml : (mostB cpu r m0).evs.length = m0 := by show (evsI (r.take m0)).length = m0; rw [qe2, List.length_take]; omega
  have hcf := qq2 hGr (limit := lim) (by omega) hr0
  rw [← hm0] at hcf
  obtain ⟨hcp, hcl, hce⟩ := qtd hGr (limit := lim) (by omega) hr0
  have hst := qn3 (cpu := cpu) (limit := lim) (opn := opn) hr0 (f := f) (by omega)
  refine qf HF rfl (wp_skip (wp_block (wp_seq (qa ?_))))
  refine fy HF HM 0 rfl rfl rfl (Yl.qh rfl rfl (by kernel_rfl) (fun _ h => h.cell (i := 2) rfl rfl)) fun a HF => ?_
  refine fy HF HM 1 rfl rfl rfl (Yl.len rfl rfl (by kernel_rfl)) fun a HF => ?_
  refine fp HF 1 2 [(53, vI lim)] fun a HF => ?_
  refine fy HF HM 3 rfl rfl rfl (v := vI (if (lim : Int) < (r.length : Int) then (lim : Int) else (r.length : Int))) (Yl.min rfl rfl rfl) fun a HF => ?_
  replace HF := HF.sp 54 (vI m0) rfl (by rw [hm0]; congr 1; split <;> omega)
  refine fp HF 1 4 [(12, vI m0)] fun a HF => ?_
  refine qb rfl ?_
  refine qba (fun aS wS => ∃ (A59 : Option Addr) (c59 : Nat) (g13 : Nat), Fr aS 87 [] [(13, vP g13 0), (12, vI m0), (50, .bool true), (11, .slice Ao q.length co), (10, .func (.func 35) #[] #[vP g4 0, vP g5 0, vP g6 0]), (39, .bool false), (31, .bool false), (25, .bool false), (14, .bool false), (9, vI 0), (8, .slice none 0 0), (6, vP g6 0), (5, vP g5 0), (4, vP g4 0), (3, vI lim)] ∧ Mem w wS (.blk g13 #[vB 1, vB cpu, vI 0, vI 0, .slice A59 ((evsI (r.take m0)).length) c59] 41 :: .row (.slice A59 ((evsI (r.take m0)).length) c59) ((evsI (r.take m0)).length) ((evsI (r.take m0)).flatMap evL) 45 11 :: .row (.slice Ao q.length co) q.length (q.flatMap hbL) 41 5 :: .blk g6 #[vI opn] 3 :: .blk g5 #[.slice X r.length cc] 22 :: .blk g4 #[vB cpu] 5 :: hbF 45 q) ∧ ((evsI (r.take m0)).length ≤ c59)) ?_ ?_
  ·
   refine qqc HM (.row (.slice Ao q.length co) q.length (q.flatMap hbL) 41 5 :: .blk g6 #[vI opn] 3 :: .blk g5 #[.slice X r.length cc] 22 :: .blk g4 #[vB cpu] 5 :: hbF 45 q) 4 [0, 1, 2, 3] [7] fun HM HS => ?_
   refine ap HF (fun _ => HS) [2] #[false, false, true, false, false, false, false, false] [(57, vI m0)] fun a HF => ?_
   refine ay HF HS 0 rfl rfl rfl (Yl.qh rfl rfl (by kernel_rfl) (fun _ h => h.cell (i := 3) rfl rfl)) fun a HF => ?_
   refine ay HF HS 1 rfl rfl rfl (Yl.qh rfl rfl (by kernel_rfl) (fun _ h => h.cell (i := 2) rfl rfl)) fun a HF => ?_
   refine ay HF HS 3 rfl rfl rfl (v := .slice X m0 cc) (Yl.qap ei_it (j := m0) rfl rfl rfl (by omega)) fun a HF => ?_
   refine qi [4, 6] (by kernel_rfl) rfl ?_
   refine all_cons ?_ ?_
   ·refine qk HF (i := 4) rfl rfl ?_
    refine e_cl HF [.slice X m0 cc] rfl rfl (qk0 X m0 cc (r.take m0) _ (HM.old (Rd.qry qcz hX (by omega))) (by rw [List.length_take]; omega) (by omega)) ?_
    rintro _ w59 ⟨⟨A59, c59, rfl, ho, hc59⟩, hbw⟩
    refine ⟨_, rfl, ?_⟩
    replace HM := HM.callRow hbw ho
    clear HF; intro a HF
    refine keepS (HM.picksT 5 [1, 2, 3, 4] (by decide) (by decide) rfl) (fun HS => ?_)
    refine ay HF HS 5 rfl rfl rfl (v := .agg #[vB 1, vB cpu, vI 0, vI 0, .slice A59 ((evsI (r.take m0)).length) c59]) (Yl.build (vs := [(0, vB 1), (1, vB cpu), (4, .slice A59 ((evsI (r.take m0)).length) c59)]) rfl (by kernel_rfl) (by kernel_rfl)) fun a HF => ?_
    refine qi [6] (by kernel_rfl) rfl ?_
    refine all_cons ?_ all_nil
    refine qk HF (i := 6) rfl rfl ?_
    refine qr HF HM (cs := #[vB 0, vB 0, vI 0, vI 0, .slice none 0 0]) rfl (by kernel_rfl) rfl (by decide) ?_
    clear HF HM; intro a w13 g13 HF HM
    refine keepS (HM.picksT 6 [2, 3, 4, 5] (by decide) (by decide) rfl) (fun HS => ?_)
    refine qi [7] (by kernel_rfl) rfl ?_
    refine all_cons ?_ all_nil
    refine qk HF (i := 7) rfl rfl ?_
    refine e_sa HF HM 0 rfl rfl rfl rfl rfl si_bk rfl rfl (by simp [Value.oneCell']) ?_
    clear HM; intro w13_7 HM
    refine noS (by kernel_rfl) ?_
    refine qn (by kernel_rfl) ?_
    exact ⟨A59, c59, g13, HF.sub (by kernel_rfl), HM.picksT 6 [0, 1, 2, 3, 4, 5] (by decide) (by decide) rfl, hc59⟩
   refine all_cons ?_ all_nil
   refine qk HF (i := 6) rfl rfl ?_
   refine qr HF HM (cs := #[vB 0, vB 0, vI 0, vI 0, .slice none 0 0]) rfl (by kernel_rfl) rfl (by decide) ?_
   clear HF HM; intro a w13 g13 HF HM
   refine keepS (HM.picksT 5 [1, 2, 3, 4] (by decide) (by decide) rfl) (fun HS => ?_)
   refine qi [4] (by kernel_rfl) rfl ?_
   refine all_cons ?_ all_nil
   refine qk HF (i := 4) rfl rfl ?_
   refine e_cl HF [.slice X m0 cc] rfl rfl (qk0 X m0 cc (r.take m0) _ (HM.old (Rd.qry qcz hX (by omega))) (by rw [List.length_take]; omega) (by omega)) ?_
   rintro _ w59 ⟨⟨A59, c59, rfl, ho, hc59⟩, hbw⟩
   refine ⟨_, rfl, ?_⟩
   replace HM := HM.callRow hbw ho
   clear HF; intro a HF
   refine keepS (HM.picksT 6 [2, 3, 4, 5] (by decide) (by decide) rfl) (fun HS => ?_)
   refine ay HF HS 5 rfl rfl rfl (v := .agg #[vB 1, vB cpu, vI 0, vI 0, .slice A59 ((evsI (r.take m0)).length) c59]) (Yl.build (vs := [(0, vB 1), (1, vB cpu), (4, .slice A59 ((evsI (r.take m0)).length) c59)]) rfl (by kernel_rfl) (by kernel_rfl)) fun a HF => ?_
   refine qi [7] (by kernel_rfl) rfl ?_
   refine all_cons ?_ all_nil
   refine qk HF (i := 7) rfl rfl ?_
   refine e_sa HF HM 1 rfl rfl rfl rfl rfl si_bk rfl rfl (by simp [Value.oneCell']) ?_
   clear HM; intro w13_7 HM
   refine noS (by kernel_rfl) ?_
   refine qn (by kernel_rfl) ?_
   exact ⟨A59, c59, g13, HF.sub (by kernel_rfl), HM.picksT 6 [1, 0, 2, 3, 4, 5] (by decide) (by decide) rfl, hc59⟩
  clear HF HM; rintro a w13 ⟨A59, c59, g13, HF, HM, hc59⟩
  refine wp_seq (qa ?_)
  refine fy HF HM 0 rfl rfl rfl (v := .agg #[vB 1, vB cpu, vI 0, vI 0, .slice A59 ((evsI (r.take m0)).length) c59]) (Yl.zg rfl rfl si_bk rfl (fun _ h => qd (h.blk (i := 0) rfl))) fun a HF => ?_
  refine fo HF 1 rfl rfl ?_
  refine e_is HF HM [.agg #[vB 1, vB cpu, vI 0, vI 0, .slice A59 ((evsI (r.take m0)).length) c59]] (.tuple #[vI ((mostB cpu r m0).qdz), vI 0]) rfl rfl (qtq (mostB cpu r m0) hmo hmf A59 c59 B _ (hL.mem HM hB) (HM.le hB) (HM.rd (i := 1) rfl) (by rw [hml]; omega)) fun w63 hbw HM a HF => ?_
  refine fp HF 4 2 [(12, vI ((mostB cpu r m0).qdz))] fun a HF => ?_
  refine qb rfl (wp_seq (wp_block ?_))
  refine zq (fun mS aS wS => ∃ (m : Nat), (m ≤ r.length) ∧ (cutN cpu r opn lim ≤ m) ∧ (cutN cpu r opn lim = qai (fun n => decide ((ofB cpu r opn n).err = 0)) m) ∧ mS = 0 + m ∧ Fr aS 87 [] [(12, vI m), (13, vP g13 0), (50, .bool true), (11, .slice Ao q.length co), (10, .func (.func 35) #[] #[vP g4 0, vP g5 0, vP g6 0]), (39, .bool false), (31, .bool false), (25, .bool false), (14, .bool false), (9, vI 0), (8, .slice none 0 0), (6, vP g6 0), (5, vP g5 0), (4, vP g4 0), (3, vI lim)] ∧ Mem w wS (.blk g13 #[vB 1, vB cpu, vI 0, vI 0, .slice A59 ((evsI (r.take m0)).length) c59] 41 :: .row (.slice A59 ((evsI (r.take m0)).length) c59) ((evsI (r.take m0)).length) ((evsI (r.take m0)).flatMap evL) 45 11 :: .row (.slice Ao q.length co) q.length (q.flatMap hbL) 41 5 :: .blk g6 #[vI opn] 3 :: .blk g5 #[.slice X r.length cc] 22 :: .blk g4 #[vB cpu] 5 :: hbF 45 q)) (m := 0 + ((mostB cpu r m0).qdz)) ⟨(mostB cpu r m0).qdz, by omega, by rw [hcf]; exact qdg _ _, hcf, rfl, HF.sub (by kernel_rfl), HM.picksT 6 [0, 1, 2, 3, 4, 5] (by decide) (by decide) rfl⟩ ?_
  clear HF HM; rintro mS a w_ ⟨m, hm, hmc, hdn, rfl, HF, HM⟩
  refine wp_seq (wp_seq (qa ?_))
  refine fp HF 2 0 [(67, vI m), (66, .func (.func 35) #[] #[vP g4 0, vP g5 0, vP g6 0])] fun a HF => ?_
  refine fo HF 2 rfl rfl ?_
  refine qca HF (f := 35) (vs := [vI m]) (fst := []) (caps := [vP g4 0, vP g5 0, vP g6 0]) rfl rfl rfl (by kernel_rfl) rfl (by decide) (qm9 cpu X r.length cc r opn m hGr (by omega) g4 g5 g6 _ (HM.blk (i := 5) rfl) (HM.blk (i := 4) rfl) (HM.blk (i := 3) rfl) (HM.old hX) hcc rfl (by omega)) ?_
  rintro _ w68 ⟨⟨A68, c68, rfl, ho, hc68⟩, hbw⟩
  refine ⟨_, rfl, ?_⟩
  replace HM := HM.callRow hbw ho
  clear HF; intro a HF
  refine fo HF 3 rfl rfl ?_
  refine e_is HF HM [.agg ((ofB cpu r opn m).cells A68 c68)] (vI ((ofB cpu r opn m).err)) rfl rfl (qqu (ofB cpu r opn m) (qwu hGr m) A68 c68 B _ (hL.mem HM hB) (HM.le hB) (HM.rd (i := 0) rfl) (by rw [qec (by omega)]; omega) rfl) fun w69 hbw HM a HF => ?_
  refine fp HF 1 4 [(70, .bool (((ofB cpu r opn m).err : Int) != (0 : Int)))] fun a HF => ?_
  refine qb rfl ?_
  rcases HF.tf 70 rfl with ⟨hb70, HF⟩ | ⟨hb70, HF⟩
  ·
   have hd70 := bne_iff_ne.1 hb70
   have hdd := qly (p := (fun n => decide ((ofB cpu r opn n).err = 0))) (m := m) (by rw [decide_eq_false_iff_not]; omega) (by omega)
   have hle := qdg (fun n => decide ((ofB cpu r opn n).err = 0)) (m - 1)
   refine qf HF rfl (wp_skip (wp_block (qa ?_)))
   refine fp HF 2 0 [(72, vI (IntKind.i64.wrap ((m : Int) - 1)))] fun a HF => ?_
   replace HF := HF.sp 72 (vI (m - 1 : Nat)) rfl (ql (by omega) (by omega))
   refine fp HF 1 2 [(12, vI (m - 1 : Nat))] fun a HF => ?_
   refine qb rfl ?_
   exact ⟨_, (by omega), (m - 1), by omega, by rw [hdn, hdd]; exact hle, hdn.trans hdd, rfl, HF.sub (by kernel_rfl), HM.picksT 7 [1, 2, 3, 4, 5, 6] (by decide) (by decide) rfl⟩
  have hd70 := bne_eq_false_iff_eq.1 hb70
  have hhere := qlz (p := (fun n => decide ((ofB cpu r opn n).err = 0))) (m := m) (by rw [decide_eq_true_eq]; omega)
  rw [hdn, hhere] at hst
  refine qe HF rfl (wp_exit (wp_seq (qa ?_)))
  refine fp HF 3 0 [(75, vI m), (74, .func (.func 35) #[] #[vP g4 0, vP g5 0, vP g6 0]), (73, .slice Ao q.length co)] fun a HF => ?_
  refine fo HF 3 rfl rfl ?_
  refine qca HF (f := 35) (vs := [vI m]) (fst := []) (caps := [vP g4 0, vP g5 0, vP g6 0]) rfl rfl rfl (by kernel_rfl) rfl (by decide) (qm9 cpu X r.length cc r opn m hGr (by omega) g4 g5 g6 _ (HM.blk (i := 6) rfl) (HM.blk (i := 5) rfl) (HM.blk (i := 4) rfl) (HM.old hX) hcc rfl (by omega)) ?_
  rintro _ w76 ⟨⟨A76, c76, rfl, ho, hc76⟩, hbw⟩
  refine ⟨_, rfl, ?_⟩
  replace HM := HM.callRow hbw ho
  clear HF; intro a HF
  refine fo HF 4 rfl rfl ?_
  refine qan HF HM (vs := [(0, .agg ((ofB cpu r opn m).cells A76 c76))]) (cs := ((ofB cpu r opn m).cells A76 c76)) rfl qbr (by decide) rfl (by kernel_rfl) rfl (by decide) ?_
  clear HF HM; intro a w77 g77 HF HM
  refine fo HF 5 rfl rfl ?_
  refine zh HF HM (i := 5) rfl qbr rfl rfl rfl (news := (hbL (⟨ofB cpu r opn m, A76, c76⟩ : Hb))) (HM.rdBlk (i := 0) (n := 1) (size := 5) rfl rfl) (qa6 _ _ _) (by omega) (by omega) rfl (by decide) ?_
  clear HF HM; intro a w78 A78 c78 HF HM hc78
  refine fp HF 1 6 [(11, .slice A78 (q.length + 1) c78)] fun a HF => ?_
  refine qb rfl ?_
  have hnA78 : q.length + 1 = (q ++ [(⟨ofB cpu r opn m, A76, c76⟩ : Hb)]).length := by rw [List.length_append]; rfl
  replace HM := HM.reRow (i := 5) (ys := (q ++ [(⟨ofB cpu r opn m, A76, c76⟩ : Hb)]).flatMap hbL) rfl hnA78 (by rw [List.flatMap_append, List.flatMap_cons, List.flatMap_nil, List.append_nil])
  rw [hnA78] at hc78
  replace HF := HF.as (t := 11) (u := .slice A78 ((q ++ [(⟨ofB cpu r opn m, A76, c76⟩ : Hb)]).length) c78) rfl (by rw [hnA78])
  replace HF := HF.as (t := 78) (u := .slice A78 ((q ++ [(⟨ofB cpu r opn m, A76, c76⟩ : Hb)]).length) c78) rfl (by rw [hnA78])
  replace HM := Mem.qxe (a := [.blk g77 ((ofB cpu r opn m).cells A76 c76) 41, .row (.slice A68 ((ofB cpu r opn m).evs.length) c68) ((ofB cpu r opn m).evs.length) ((ofB cpu r opn m).evs.flatMap evL) 45 11, .blk g13 #[vB 1, vB cpu, vI 0, vI 0, .slice A59 ((evsI (r.take m0)).length) c59] 41, .row (.slice A59 ((evsI (r.take m0)).length) c59) ((evsI (r.take m0)).length) ((evsI (r.take m0)).flatMap evL) 45 11, .row (.slice A78 ((q ++ [(⟨ofB cpu r opn m, A76, c76⟩ : Hb)]).length) c78) ((q ++ [(⟨ofB cpu r opn m, A76, c76⟩ : Hb)]).length) ((q ++ [(⟨ofB cpu r opn m, A76, c76⟩ : Hb)]).flatMap hbL) 41 5, .blk g6 #[vI opn] 3, .blk g5 #[.slice X r.length cc] 22, .blk g4 #[vB cpu] 5]) (q := q) (HM.picksT (fs' := (.row (.slice A76 ((ofB cpu r opn m).evs.length) c76) ((ofB cpu r opn m).evs.length) ((ofB cpu r opn m).evs.flatMap evL) 45 11 :: .blk g77 ((ofB cpu r opn m).cells A76 c76) 41 :: .row (.slice A68 ((ofB cpu r opn m).evs.length) c68) ((ofB cpu r opn m).evs.length) ((ofB cpu r opn m).evs.flatMap evL) 45 11 :: .blk g13 #[vB 1, vB cpu, vI 0, vI 0, .slice A59 ((evsI (r.take m0)).length) c59] 41 :: .row (.slice A59 ((evsI (r.take m0)).length) c59) ((evsI (r.take m0)).length) ((evsI (r.take m0)).flatMap evL) 45 11 :: .row (.slice A78 ((q ++ [(⟨ofB cpu r opn m, A76, c76⟩ : Hb)]).length) c78) ((q ++ [(⟨ofB cpu r opn m, A76, c76⟩ : Hb)]).length) ((q ++ [(⟨ofB cpu r opn m, A76, c76⟩ : Hb)]).flatMap hbL) 41 5 :: .blk g6 #[vI opn] 3 :: .blk g5 #[.slice X r.length cc] 22 :: .blk g4 #[vB cpu] 5 :: hbF 45 q)) 9 [1, 0, 2, 3, 4, 5, 6, 7, 8] (by decide) (by decide) rfl) rfl
  replace HM : Mem w _ (.blk g77 ((ofB cpu r opn m).cells A76 c76) 41 :: .row (.slice A68 ((ofB cpu r opn m).evs.length) c68) ((ofB cpu r opn m).evs.length) ((ofB cpu r opn m).evs.flatMap evL) 45 11 :: .blk g13 #[vB 1, vB cpu, vI 0, vI 0, .slice A59 ((evsI (r.take m0)).length) c59] 41 :: .row (.slice A59 ((evsI (r.take m0)).length) c59) ((evsI (r.take m0)).length) ((evsI (r.take m0)).flatMap evL) 45 11 :: .row (.slice A78 ((q ++ [(⟨ofB cpu r opn m, A76, c76⟩ : Hb)]).length) c78) ((q ++ [(⟨ofB cpu r opn m, A76, c76⟩ : Hb)]).length) ((q ++ [(⟨ofB cpu r opn m, A76, c76⟩ : Hb)]).flatMap hbL) 41 5 :: .blk g6 #[vI opn] 3 :: .blk g5 #[.slice X r.length cc] 22 :: .blk g4 #[vB cpu] 5 :: hbF 45 (q ++ [(⟨ofB cpu r opn m, A76, c76⟩ : Hb)])) := HM
  refine qa ?_
  refine fy HF HM 0 rfl rfl rfl (Yl.qh rfl rfl (by kernel_rfl) (fun _ h => h.cell (i := 6) rfl rfl)) fun a HF => ?_
  refine fp HF 1 1 [(80, vI m)] fun a HF => ?_
  refine fy HF HM 2 rfl rfl rfl (Yl.qh rfl rfl (by kernel_rfl) (fun _ h => h.cell (i := 6) rfl rfl)) fun a HF => ?_
  refine fy HF HM 3 rfl rfl rfl (Yl.len rfl rfl (by kernel_rfl)) fun a HF => ?_
  refine fy HF HM 4 rfl rfl rfl (Yl.qh rfl rfl (by kernel_rfl) (fun _ h => h.cell (i := 6) rfl rfl)) fun a HF => ?_
  refine fy HF HM 5 rfl rfl rfl (Yl.len rfl rfl (by kernel_rfl)) fun a HF => ?_
  refine fy HF HM 6 rfl rfl rfl (v := .slice (if r.length = m then X else X.map (·.add (m * 12))) (r.length - m) (r.length - m)) (Yl.qw7 ei_it (i := m) (j := r.length) (q := r.length) rfl rfl rfl rfl rfl (by omega) (by omega) (by omega)) fun a HF => ?_
  replace HF := HF.sp 85 (.slice (if r.length = m then X else X.map (·.add (m * 12))) ((r.drop m).length) ((r.drop m).length)) rfl (by rw [List.length_drop])
  refine fo HF 7 rfl rfl ?_
  refine qo HF HM (i := 6) (cs := #[.slice X r.length cc]) rfl rfl rfl rfl (by kernel_rfl) rfl rfl (by simp) ?_
  clear HM; intro w18_7 HM
  refine qb rfl ?_
  exact ⟨_, (by rw [List.length_drop]; omega), (r.drop m), if r.length = m then X else X.map (·.add (m * 12)), (r.drop m).length, (q ++ [(⟨ofB cpu r opn m, A76, c76⟩ : Hb)]), (f - 1), A78, c78, Rd.qxf qcz hX (by omega) (Nat.le_refl _), Nat.le_refl _, hGr.drop m, by rw [List.length_drop]; omega, by rw [List.length_drop]; omega, by rw [← hq, hst, List.map_append, List.append_assoc]; rfl, hc78, by rw [List.length_append, List.length_drop, List.length_singleton]; omega, rfl, HF.sub (by kernel_rfl), HM.picksT 8 [4, 5, 6, 7] (by decide) (by decide) rfl⟩
 have hd50 := of_decide_eq_false hb50
 have hq2 : q.map Hb.b = cutGo cpu opn lim l.length l := by rw [← hq, qq3 (by omega), List.append_nil]
 refine qe HF rfl (wp_exit (wp_seq (qa ?_)))
 refine fp HF 3 0 [(9, vI 0), (8, .slice Ao q.length co)] fun a HF => ?_
 refine qb rfl (wp_ret ?_)
 replace HM := HM.picksT (fs' := (.row (.slice Ao q.length co) q.length (q.flatMap hbL) 41 5 :: hbF 45 q)) 4 [0] (by decide) (by decide) rfl
 exact ret2 rfl HF (.tmp HF rfl) (.tmp HF rfl) (by rw [qq6 (by omega) hgood (by omega), ← hq2]; exact qql HM hco)
theorem qrr : SI Tryd.prog 102 6 := ⟨by kernel_rfl, by kernel_rfl⟩
theorem qih (W w : World) (gb lp B : Nat) (A : Option Addr) (c : Nat) (l : List Nat) (Inv : List Nat → List Fact → Prop) (Stop : List Fact → Prop) (F0 : List Fact) (hL : LaidX B W) (hB : B ≤ W.heap.size) (hr : Rd W W.heap.size 1 A l.length (l.map B8)) (hc : l.length ≤ c) (hl : ∀ b ∈ l, b < 256) (hn : l.length ≤ 100000000)
    (hy : qfs W lp Inv Stop) (hI0 : Inv l F0) (HM : Mem W w (.blk gb #[.slice A l.length c] 54 :: F0)) :
    Calls Tryd.prog 60 (.func (.yield lp) #[] #[] :: [.pointer (some ⟨gb, 0, none⟩)]).toArray w (qrb W Inv Stop) := by
 refine qg (vs := [.func (.yield lp) #[] #[], vP gb 0]) Tryd.func60 rfl rfl (by kernel_rfl) (σ0 := [(0, .func (.yield lp) #[] #[]), (1, vP gb 0)]) rfl ?_
 intro a HF
 refine wp_block ?_
 refine zq (fun mS aS wS => ∃ (rest : List Nat) (X : Option Addr) (cc : Nat) (F : List Fact), (Inv rest F) ∧ (Rd W W.heap.size 1 X rest.length (rest.map B8)) ∧ (rest.length ≤ cc) ∧ (∀ b ∈ rest, b < 256) ∧ (rest.length ≤ l.length) ∧ mS = rest.length ∧ Fr aS 29 [] [(0, .func (.yield lp) #[] #[]), (1, vP gb 0)] ∧ Mem W wS (.blk gb #[.slice X rest.length cc] 54 :: F)) (m := l.length) ⟨l, A, c, F0, hI0, hr, hc, hl, Nat.le_refl _, rfl, HF.sub (by kernel_rfl), HM.picksT 1 [0] (by decide) (by decide) rfl⟩ ?_
 clear HF HM; rintro mS a w_ ⟨rest, X, cc, F, hI, hX, hcc, hrl, hrn, rfl, HF, HM⟩
 refine wp_seq (wp_seq (qa ?_))
 refine fy HF HM 0 rfl rfl rfl (Yl.qh rfl rfl (by kernel_rfl) (fun _ h => h.cell (i := 0) rfl rfl)) fun a HF => ?_
 refine fy HF HM 1 rfl rfl rfl (Yl.len rfl rfl (by kernel_rfl)) fun a HF => ?_
 refine fp HF 1 2 [(8, .bool (decide ((rest.length : Int) > (0 : Int))))] fun a HF => ?_
 refine qb rfl ?_
 rcases HF.tf 8 rfl with ⟨hb8, HF⟩ | ⟨hb8, HF⟩
 ·
  have hd8 := of_decide_eq_true hb8
  have hne : 0 < rest.length := by omega
  obtain ⟨b, m, er, hq⟩ : ∃ b m er, readB rest = (b, m, er) := ⟨_, _, _, rfl⟩
  refine qf HF rfl (wp_skip (wp_block (wp_seq (qa ?_))))
  refine fy HF HM 0 rfl rfl rfl (Yl.qh rfl rfl (by kernel_rfl) (fun _ h => h.cell (i := 0) rfl rfl)) fun a HF => ?_
  refine fo HF 1 rfl rfl ?_
  refine e_cl HF [.slice X rest.length cc] rfl rfl (qi0 X rest.length cc rest B _ (hL.mem HM hB) (HM.le hB) (HM.old hX) hcc rfl (by omega) hrl hq) ?_
  rintro _ w11 ⟨⟨A11, c11, rfl, ho, hc11⟩, hbw⟩
  refine ⟨_, rfl, ?_⟩
  replace HM := HM.callRow hbw ho
  clear HF; intro a HF
  refine fp HF 4 2 [(14, vI er), (13, vI m), (12, .agg (b.cells A11 c11))] fun a HF => ?_
  refine fo HF 6 rfl rfl ?_
  refine qr HF HM (cs := #[vB 0, vB 0, vI 0, vI 0, .slice none 0 0]) rfl (by kernel_rfl) rfl (by decide) ?_
  clear HF HM; intro a w3 g3 HF HM
  refine fo HF 7 rfl rfl ?_
  refine e_sa HF HM 0 rfl rfl rfl rfl rfl si_bk rfl rfl (qa6 _ _ _) ?_
  clear HM; intro w1_7 HM
  refine fp HF 2 8 [(5, vI er), (4, vI m)] fun a HF => ?_
  refine qb rfl (wp_seq (wp_seq ?_))
  refine qkj (i := 5) ?_
  refine fp HF 1 0 [(15, .func (.yield lp) #[] #[])] fun a HF => ?_
  refine fy HF HM 1 rfl rfl rfl (v := .agg (b.cells A11 c11)) (Yl.zg rfl rfl si_bk rfl (fun _ h => qd (h.blk (i := 0) rfl))) fun a HF => ?_
  refine fp HF 1 2 [(17, vI m)] fun a HF => ?_
  refine fy HF HM 3 rfl rfl rfl (v := .agg #[vB b.kind, vB b.cpu, vI b.lost, vI b.next, .slice A11 b.evs.length c11, vI m]) (Yl.build (vs := [(0, .agg (b.cells A11 c11)), (1, vI m)]) rfl (by kernel_rfl) (by kernel_rfl)) fun a HF => ?_
  refine fp HF 1 4 [(19, vI er)] fun a HF => ?_
  refine qb rfl ?_
  refine qtf HF (i := 5) (vs := [.agg #[vB b.kind, vB b.cpu, vI b.lost, vI b.next, .slice A11 b.evs.length c11, vI m], vI er]) rfl rfl rfl rfl rfl rfl (by decide) (hy rest F _ _ A11 c11 b m er hI hq hne hrl hc11 (Mem.qvz (es := [.blk g3 (b.cells A11 c11) 41, .blk gb #[.slice X rest.length cc] 54]) (HM.picksT (fs' := (.row (.slice A11 b.evs.length c11) b.evs.length (b.evs.flatMap evL) 45 11 :: .blk g3 (b.cells A11 c11) 41 :: .blk gb #[.slice X rest.length cc] 54 :: F)) 3 [1, 0, 2] (by decide) (by decide) rfl))) qhk ?_
  clear HF HM; rintro v w20 a ⟨F2, HM, (⟨he, hv, hI2⟩ | ⟨he, hv, hS2⟩)⟩ HF <;> injection hv with hv <;> subst hv
  ·
   replace HM : Mem W w20 (.blk g3 (b.cells A11 c11) 41 :: .blk gb #[.slice X rest.length cc] 54 :: F2) := Mem.qrz (es := [.blk g3 (b.cells A11 c11) 41, .blk gb #[.slice X rest.length cc] 54]) HM
   have hq0 := hq; rw [he] at hq0; have hof := qgd hrl hq0; have hm13 := hof.least; have hml := hof.len; have hst : (rest.drop m).length < rest.length := by rw [List.length_drop]; omega
   refine fp HF 4 6 [(24, .bool ((er : Int) != (0 : Int))), (22, .bool false)] fun a HF => ?_
   replace HF := HF.sp 24 (.bool false) rfl (by rw [he]; simp)
   refine fp HF 1 10 [(25, .bool false)] fun a HF => ?_
   refine qb rfl (qe HF rfl (wp_skip (qa ?_)))
   refine fy HF HM 0 rfl rfl rfl (Yl.qh rfl rfl (by kernel_rfl) (fun _ h => h.cell (i := 1) rfl rfl)) fun a HF => ?_
   refine fp HF 1 1 [(27, vI m)] fun a HF => ?_
   refine fy HF HM 2 rfl rfl rfl (v := .slice (if cc = m then X else X.map (·.add (m * 1))) (rest.length - m) (cc - m)) (Yl.sliceFrom ei_u8 (j := m) rfl rfl rfl (by omega)) fun a HF => ?_
   replace HF := HF.sp 28 (.slice (if cc = m then X else X.map (·.add (m * 1))) ((rest.drop m).length) (cc - m)) rfl (by rw [List.length_drop])
   refine fo HF 3 rfl rfl ?_
   refine qo HF HM (i := 1) (cs := #[.slice X rest.length cc]) rfl rfl rfl rfl (by kernel_rfl) rfl rfl (by simp) ?_
   clear HM; intro w3_3 HM
   refine qb rfl ?_
   exact ⟨_, hst, (rest.drop m), if cc = m then X else X.map (·.add (m * 1)), cc - m, F2, hI2, Rd.qxg hX hml hcc, by rw [List.length_drop]; omega, qa4 hrl m, by omega, rfl, HF.sub (by kernel_rfl), HM.picksT 2 [1] (by decide) (by decide) rfl⟩
  ·
   replace HM : Mem W w20 (.blk g3 (b.cells A11 c11) 41 :: .blk gb #[.slice X rest.length cc] 54 :: F2) := Mem.qrz (es := [.blk g3 (b.cells A11 c11) 41, .blk gb #[.slice X rest.length cc] 54]) HM
   refine fp HF 5 6 [(25, .bool true)] fun a HF => ?_
   refine qb rfl (qf HF rfl (wp_ret ?_))
   exact ret0 rfl HF (⟨_, rfl, F2, Mem.qnd [.blk g3 (b.cells A11 c11) 41, .blk gb #[.slice X rest.length cc] 54] HM, .inr hS2⟩)
 have hd8 := of_decide_eq_false hb8
 have hr0 : rest = [] := List.length_eq_zero_iff.1 (by omega)
 refine qe HF rfl (wp_exit ?_)
 subst hr0
 exact norm0 rfl HF (⟨_, rfl, F, Mem.qnd [.blk gb #[.slice X ([] : List Nat).length cc] 54] HM, .inl hI⟩)
theorem qky (A : Option Addr) (n c : Nat) (w : World) :
    Calls Tryd.prog 42 #[.slice A n c] w fun r w' => ∃ g, r = .returned (.func (.func 60) #[] #[.pointer (some ⟨g, 0, none⟩)]) ∧ Mem w w' [.blk g #[.slice A n c] 54] := by
 refine qg (vs := [.slice A n c]) Tryd.func42 rfl rfl (by kernel_rfl) (σ0 := [(0, .slice A n c)]) rfl ?_
 intro a HF
 have HM := Mem.start w
 refine wp_seq (qa ?_)
 refine fo HF 0 rfl rfl ?_
 refine e_box HF HM (cs := #[.slice A n c]) rfl rfl rfl rfl (by decide) ?_
 clear HF HM; intro a w1 g1 HF HM
 refine fp HF 1 1 [(2, .nilFunc)] fun a HF => ?_
 refine qb rfl (wp_seq (qa ?_))
 refine fy HF HM 0 rfl rfl rfl (v := .func (.func 60) #[] #[vP g1 0]) (Yl.makeFunc (fst := []) (caps := [vP g1 0]) rfl rfl rfl) fun a HF => ?_
 refine fp HF 1 1 [(2, .func (.func 60) #[] #[vP g1 0])] fun a HF => ?_
 refine qb rfl (wp_ret ?_)
 exact ret1 rfl HF (.tmp HF rfl) (⟨_, rfl, HM⟩)
theorem qvv (A : Option Addr) (c : Nat) (l : List Nat) (BB : Nat) (w : World) (hL : LaidX BB w) (hB : BB ≤ w.heap.size) (hr : Rd w w.heap.size 1 A l.length (l.map B8)) (hc : l.length ≤ c) (hl : ∀ b ∈ l, b < 256) (hn : l.length ≤ 100000000) :
    Calls Tryd.prog 22 #[.slice A l.length c] w (Is w (.tuple #[.int .i64 ((qbo l).1.length : Int), .int .i64 ((qbo l).2.1 : Int), .int .i64 ((qbo l).2.2 : Int)])) := by
 refine qe4 (vs := [.slice A l.length c]) Tryd.func22 rfl rfl (by kernel_rfl) (σ0 := [(0, .slice A l.length c)]) rfl ?_
 intro a HF
 have HM := Mem.start w
 refine wp_seq (qa ?_)
 refine fo HF 0 rfl rfl ?_
 refine qr HF HM (cs := #[vI 0]) rfl (by kernel_rfl) rfl (by decide) ?_
 clear HF HM; intro a w2 g2 HF HM
 refine fo HF 1 rfl rfl ?_
 refine qr HF HM (cs := #[vI 0]) rfl (by kernel_rfl) rfl (by decide) ?_
 clear HF HM; intro a w3 g3 HF HM
 refine fo HF 2 rfl rfl ?_
 refine qr HF HM (cs := #[vI 0]) rfl (by kernel_rfl) rfl (by decide) ?_
 clear HF HM; intro a w4 g4 HF HM
 refine qb rfl (wp_seq (wp_seq (qa ?_)))
 refine fp HF 1 0 [(9, .slice A l.length c)] fun a HF => ?_
 refine fy HF HM 1 rfl rfl rfl (Yl.len rfl rfl (by kernel_rfl)) fun a HF => ?_
 refine fp HF 1 2 [(11, .bool (decide ((l.length : Int) > (524288 : Int))))] fun a HF => ?_
 refine qb rfl ?_
 rcases HF.tf 11 rfl with ⟨hb11, HF⟩ | ⟨hb11, HF⟩
 ·
  have hd11 := of_decide_eq_true hb11
  refine qf HF rfl (wp_seq (qa ?_))
  refine fo HF 0 rfl rfl ?_
  refine qo HF HM (i := 2) (cs := #[vI 0]) rfl rfl rfl rfl (by kernel_rfl) rfl rfl (by simp) ?_
  clear HM; intro w2_0 HM
  refine fo HF 1 rfl rfl ?_
  refine qo HF HM (i := 1) (cs := #[vI 0]) rfl rfl rfl rfl (by kernel_rfl) rfl rfl (by simp) ?_
  clear HM; intro w2_1 HM
  refine fo HF 2 rfl rfl ?_
  refine qo HF HM (i := 0) (cs := #[vI 0]) rfl rfl rfl rfl (by kernel_rfl) rfl rfl (by simp) ?_
  clear HM; intro w2_2 HM
  refine qb rfl (wp_ret ?_)
  refine quh ?_
  exact ret3 rfl HF (.cell1 (i := 2) HF HM rfl rfl (by kernel_rfl) rfl) (.cell1 (i := 1) HF HM rfl rfl (by kernel_rfl) rfl) (.cell1 (i := 0) HF HM rfl rfl (by kernel_rfl) rfl) (⟨by rw [show qbo l = ([], 0, 3) from if_pos (by omega)]; rfl, HM.below⟩)
 have hd11 := of_decide_eq_false hb11
 refine qe HF rfl (wp_skip (wp_seq (qa ?_)))
 refine fo HF 0 rfl rfl ?_
 refine qr HF HM (cs := #[vI 0]) rfl (by kernel_rfl) rfl (by decide) ?_
 clear HF HM; intro a w5 g5 HF HM
 refine fo HF 1 rfl rfl ?_
 refine qr HF HM (cs := #[vI 0]) rfl (by kernel_rfl) rfl (by decide) ?_
 clear HF HM; intro a w6 g6 HF HM
 refine fo HF 2 rfl rfl ?_
 refine qo HF HM (i := 1) (cs := #[vI 0]) rfl rfl rfl rfl (by kernel_rfl) rfl rfl (by simp) ?_
 clear HM; intro w3_2 HM
 refine fo HF 3 rfl rfl ?_
 refine qo HF HM (i := 0) (cs := #[vI 0]) rfl rfl rfl rfl (by kernel_rfl) rfl rfl (by simp) ?_
 clear HM; intro w3_3 HM
 refine qb rfl (wp_seq (wp_seq (qa ?_)))
 refine fp HF 1 0 [(12, .slice A l.length c)] fun a HF => ?_
 refine fo HF 1 rfl rfl ?_
 refine e_cl HF [.slice A l.length c] rfl rfl (qky A l.length c _) ?_
 rintro _ w13 ⟨gp, rfl, hm⟩
 refine ⟨_, rfl, ?_⟩
 replace HM := HM.join hm
 clear HF; intro a HF
 refine qb rfl (wp_block ?_)
 refine qug HF HM (fun F => ∃ (k : Nat) (p : Nat) (f : Nat), (([] : List Nat).length ≤ f) ∧ ((qq l.length l).1.length = k + (qq f ([] : List Nat)).1.length) ∧ ((qq l.length l).2.1 = p + (qq f ([] : List Nat)).2.1) ∧ ((qq l.length l).2.2 = (qq f ([] : List Nat)).2.2) ∧ (k + ([] : List Nat).length ≤ l.length) ∧ (p + ([] : List Nat).length ≤ l.length) ∧ F = [.blk g6 #[vI p] 3, .blk g5 #[vI k] 3, .blk g4 #[vI 0] 36, .blk g3 #[vI 0] 3, .blk g2 #[vI 0] 3]) (fun c F => c = .ret ∧ ∃ (k : Nat) (p : Nat) (e : Nat), ((qq l.length l).1.length = k) ∧ ((qq l.length l).2.1 = p) ∧ ((qq l.length l).2.2 = e) ∧ F = [.blk g6 #[vI p] 3, .blk g5 #[vI k] 3, .blk g4 #[vI e] 36, .blk g3 #[vI p] 3, .blk g2 #[vI k] 3]) rfl (by kernel_rfl) ?_ ?_ ?_
 ·
  clear HF HM; intro lp B rec w1 hrec HM
  have hy : qfs w lp (fun rest F => ∃ (k : Nat) (p : Nat) (f : Nat), (rest.length ≤ f) ∧ ((qq l.length l).1.length = k + (qq f rest).1.length) ∧ ((qq l.length l).2.1 = p + (qq f rest).2.1) ∧ ((qq l.length l).2.2 = (qq f rest).2.2) ∧ (k + rest.length ≤ l.length) ∧ (p + rest.length ≤ l.length) ∧ F = (.obj lp (.loop (rec .ready none)) :: .obj B (.deferred (some [])) :: [.blk g6 #[vI p] 3, .blk g5 #[vI k] 3, .blk g4 #[vI 0] 36, .blk g3 #[vI 0] 3, .blk g2 #[vI 0] 3])) (fun F => ∃ (k : Nat) (p : Nat) (e : Nat), ((qq l.length l).1.length = k) ∧ ((qq l.length l).2.1 = p) ∧ ((qq l.length l).2.2 = e) ∧ F = (.obj lp (.loop (rec .done (some .ret))) :: .obj B (.deferred (some [])) :: [.blk g6 #[vI p] 3, .blk g5 #[vI k] 3, .blk g4 #[vI e] 36, .blk g3 #[vI p] 3, .blk g2 #[vI k] 3])) := by
   rintro rest F fr w3 A9 c9 b m er ⟨k, p, f, hf, hk, hp, he, hkn, hpn, rfl⟩ hq hne hrl hcb HM
   replace HM := HM.picksT (fs' := (.obj lp (.loop (rec .ready none)) :: .row (.slice A9 b.evs.length c9) b.evs.length (b.evs.flatMap evL) 45 11 :: .obj B (.deferred (some [])) :: .blk g6 #[vI p] 3 :: .blk g5 #[vI k] 3 :: .blk g4 #[vI 0] 36 :: .blk g3 #[vI 0] 3 :: .blk g2 #[vI 0] 3 :: fr)) 8 [1, 0, 2, 3, 4, 5, 6, 7] (by decide) (by decide) rfl
   refine qf7 (v1 := .agg #[.int .u8 (b.kind : Int), .int .u8 (b.cpu : Int), .int .i64 b.lost, .int .i64 b.next, .slice A9 b.evs.length c9, .int .i64 (m : Int)]) (v2 := vI er) hrec HM (by decide) (by decide) fun a HF => ?_
   refine wpIn_seq ?_
   refine zl ?_
   refine fo HF 0 rfl rfl ?_
   refine qr HF HM (cs := #[vB 0, vB 0, vI 0, vI 0, .slice none 0 0, vI 0]) rfl (by kernel_rfl) rfl (by decide) ?_
   clear HF HM; intro a w7 g7 HF HM
   refine fo HF 1 rfl rfl ?_
   refine e_sa HF HM 0 rfl rfl rfl rfl rfl qrr rfl rfl (by simp [Value.oneCell']) ?_
   clear HM; intro w5_1 HM
   refine qb rfl ?_
   refine zl ?_
   refine fp HF 1 0 [(8, vI er)] fun a HF => ?_
   refine qb rfl ?_
   refine ⟨(.blk g7 #[.int .u8 (b.kind : Int), .int .u8 (b.cpu : Int), .int .i64 b.lost, .int .i64 b.next, .slice A9 b.evs.length c9, .int .i64 (m : Int)] 102 :: .row (.slice A9 b.evs.length c9) b.evs.length (b.evs.flatMap evL) 45 11 :: .obj B (.deferred (some [])) :: .blk g6 #[vI p] 3 :: .blk g5 #[vI k] 3 :: .blk g4 #[vI 0] 36 :: .blk g3 #[vI 0] 3 :: .blk g2 #[vI 0] 3 :: fr), HM.picksT (fs' := (.obj lp (.loop (rec .ready none)) :: .blk g7 #[.int .u8 (b.kind : Int), .int .u8 (b.cpu : Int), .int .i64 b.lost, .int .i64 b.next, .slice A9 b.evs.length c9, .int .i64 (m : Int)] 102 :: .row (.slice A9 b.evs.length c9) b.evs.length (b.evs.flatMap evL) 45 11 :: .obj B (.deferred (some [])) :: .blk g6 #[vI p] 3 :: .blk g5 #[vI k] 3 :: .blk g4 #[vI 0] 36 :: .blk g3 #[vI 0] 3 :: .blk g2 #[vI 0] 3 :: fr)) 9 [1, 0, 2, 3, 4, 5, 6, 7, 8] (by decide) (by decide) rfl, fun w4 HM => ?_⟩
   refine wpIn_block ?_
   refine wpIn_seq ?_
   refine wpIn_seq ?_
   refine zl ?_
   refine fp HF 2 0 [(17, .bool ((er : Int) != (0 : Int)))] fun a HF => ?_
   refine qb rfl ?_
   rcases HF.tf 17 rfl with ⟨hb17, HF⟩ | ⟨hb17, HF⟩
   ·
    have hd17 := bne_iff_ne.1 hb17
    have hg := qg8 (f := f) (by omega) hne hq (by omega)
    rw [hg] at hk hp he
    simp only [List.length_nil, Nat.add_zero] at hk hp
    refine qg7 HF rfl ?_
    refine wpIn_seq ?_
    refine qra HM (.obj lp (.loop (rec .busy none)) :: .blk g7 #[.int .u8 (b.kind : Int), .int .u8 (b.cpu : Int), .int .i64 b.lost, .int .i64 b.next, .slice A9 b.evs.length c9, .int .i64 (m : Int)] 102 :: .row (.slice A9 b.evs.length c9) b.evs.length (b.evs.flatMap evL) 45 11 :: .obj B (.deferred (some [])) :: .blk g6 #[vI p] 3 :: .blk g5 #[vI k] 3 :: .blk g4 #[vI 0] 36 :: .blk g3 #[vI 0] 3 :: fr) 9 [0, 1, 2, 3, 4, 5, 6, 7] [4, 5] fun HM HS => ?_
    refine ap HF (fun _ => HS) [2] #[false, false, true, false, false, false] [(20, vI er)] fun a HF => ?_
    refine ay HF HS 0 rfl rfl rfl (Yl.qh rfl rfl (by kernel_rfl) (fun _ h => h.cell (i := 5) rfl rfl)) fun a HF => ?_
    refine ay HF HS 1 rfl rfl rfl (Yl.qh rfl rfl (by kernel_rfl) (fun _ h => h.cell (i := 4) rfl rfl)) fun a HF => ?_
    refine qi [3] (by kernel_rfl) rfl ?_
    refine all_cons ?_ all_nil
    refine qk HF (i := 3) rfl rfl ?_
    refine qo HF HM (i := 8) (cs := #[vI 0]) rfl rfl rfl rfl (by kernel_rfl) rfl rfl (by simp) ?_
    clear HM; intro w8_3 HM
    refine keepS (HM.picksT 9 [0, 1, 2, 3, 4, 5, 6, 7] (by decide) (by decide) rfl) (fun HS => ?_)
    refine qi [4] (by kernel_rfl) rfl ?_
    refine all_cons ?_ all_nil
    refine qk HF (i := 4) rfl rfl ?_
    refine qo HF HM (i := 7) (cs := #[vI 0]) rfl rfl rfl rfl (by kernel_rfl) rfl rfl (by simp) ?_
    clear HM; intro w8_4 HM
    refine noS (by kernel_rfl) ?_
    refine qi [5] (by kernel_rfl) rfl ?_
    refine all_cons ?_ all_nil
    refine qk HF (i := 5) rfl rfl ?_
    refine qo HF HM (i := 6) (cs := #[vI 0]) rfl rfl rfl rfl (by kernel_rfl) rfl rfl (by simp) ?_
    clear HM; intro w8_5 HM
    refine noS (by kernel_rfl) ?_
    refine qn (by kernel_rfl) ?_
    refine wpIn_ret ?_
    refine ⟨(.obj B (.deferred (some [])) :: .blk g6 #[vI p] 3 :: .blk g5 #[vI k] 3 :: .blk g4 #[vI er] 36 :: .blk g3 #[vI p] 3 :: .blk g2 #[vI k] 3 :: fr), HM.picksT (fs' := (.obj lp (.loop (rec .busy none)) :: .obj B (.deferred (some [])) :: .blk g6 #[vI p] 3 :: .blk g5 #[vI k] 3 :: .blk g4 #[vI er] 36 :: .blk g3 #[vI p] 3 :: .blk g2 #[vI k] 3 :: fr)) 9 [0, 3, 4, 5, 6, 7, 8] (by decide) (by decide) rfl, fun w5 HM => ?_⟩
    exact ⟨(.obj lp (.loop (rec .done (some .ret))) :: .obj B (.deferred (some [])) :: .blk g6 #[vI p] 3 :: .blk g5 #[vI k] 3 :: .blk g4 #[vI er] 36 :: .blk g3 #[vI p] 3 :: .blk g2 #[vI k] 3 :: []), HM, .inr ⟨(by omega), rfl, k, p, er, hk, hp, he, rfl⟩⟩
   have hd17 := bne_eq_false_iff_eq.1 hb17
   have he0 : er = 0 := by omega
   have hq0 := hq
   rw [he0] at hq0
   have hg := qdi (f := f) (by omega) hne hq0
   have hof := qgd hrl hq0
   have hm13 := hof.least
   have hml := hof.len
   rw [hg] at hk hp he
   dsimp only at hk hp he
   rw [List.length_cons] at hk
   refine qf6 HF rfl ?_
   refine wpIn_skip ?_
   refine wpIn_seq ?_
   refine zl ?_
   refine fy HF HM 0 rfl rfl rfl (Yl.qh rfl rfl (by kernel_rfl) (fun _ h => h.cell (i := 5) rfl rfl)) fun a HF => ?_
   refine fp HF 1 1 [(22, vI (IntKind.i64.wrap ((k : Int) + 1)))] fun a HF => ?_
   replace HF := HF.sp 22 (vI (k + 1 : Nat)) rfl (ql (by omega) (by omega))
   refine fo HF 2 rfl rfl ?_
   refine qo HF HM (i := 5) (cs := #[vI k]) rfl rfl rfl rfl (by kernel_rfl) rfl rfl (by simp) ?_
   clear HM; intro w9_2 HM
   refine qb rfl ?_
   refine zl ?_
   refine fy HF HM 0 rfl rfl rfl (Yl.qh rfl rfl (by kernel_rfl) (fun _ h => h.cell (i := 4) rfl rfl)) fun a HF => ?_
   refine fp HF 1 1 [(24, vP g7 5)] fun a HF => ?_
   refine fy HF HM 2 rfl rfl rfl (v := vI m) (Yl.qh rfl rfl (by kernel_rfl) (fun _ h => h.cell (i := 1) rfl (rfl))) fun a HF => ?_
   refine fp HF 1 3 [(26, vI (IntKind.i64.wrap ((p : Int) + (m : Int))))] fun a HF => ?_
   replace HF := HF.sp 26 (vI (p + m : Nat)) rfl (ql (by omega) (by omega))
   refine fo HF 4 rfl rfl ?_
   refine qo HF HM (i := 4) (cs := #[vI p]) rfl rfl rfl rfl (by kernel_rfl) rfl rfl (by simp) ?_
   clear HM; intro w10_4 HM
   refine qb rfl ?_
   refine ⟨(.obj B (.deferred (some [])) :: .blk g6 #[vI (p + m : Nat)] 3 :: .blk g5 #[vI (k + 1 : Nat)] 3 :: .blk g4 #[vI 0] 36 :: .blk g3 #[vI 0] 3 :: .blk g2 #[vI 0] 3 :: fr), HM.picksT (fs' := (.obj lp (.loop (rec .busy none)) :: .obj B (.deferred (some [])) :: .blk g6 #[vI (p + m : Nat)] 3 :: .blk g5 #[vI (k + 1 : Nat)] 3 :: .blk g4 #[vI 0] 36 :: .blk g3 #[vI 0] 3 :: .blk g2 #[vI 0] 3 :: fr)) 9 [0, 3, 4, 5, 6, 7, 8] (by decide) (by decide) rfl, fun w5 HM => ?_⟩
   exact ⟨(.obj lp (.loop (rec .ready none)) :: .obj B (.deferred (some [])) :: .blk g6 #[vI (p + m : Nat)] 3 :: .blk g5 #[vI (k + 1 : Nat)] 3 :: .blk g4 #[vI 0] 36 :: .blk g3 #[vI 0] 3 :: .blk g2 #[vI 0] 3 :: []), HM, .inl ⟨(by omega), rfl, k + 1, p + m, (f - 1), by rw [List.length_drop]; omega, by omega, by omega, he, by rw [List.length_drop]; omega, by rw [List.length_drop]; omega, rfl⟩⟩
  refine (qih w w1 gp lp BB A c l _ _ _ hL hB hr hc hl (by omega) hy ⟨0, 0, l.length, Nat.le_refl _, (Nat.zero_add _).symm, (Nat.zero_add _).symm, rfl, by omega, by omega, rfl⟩ (HM.picks [2, 0, 1, 3, 4, 5, 6, 7] (by decide) rfl)).mono ?_
  rintro r w2 ⟨v, rfl, F2, HM2, (⟨k, p, f, hf, hk, hp, he, hkn, hpn, rfl⟩ | ⟨k, p, e, hk, hp, he, rfl⟩)⟩
  ·exact ⟨v, rfl, .inl ⟨_, ⟨k, p, f, hf, hk, hp, he, hkn, hpn, rfl⟩, HM2⟩⟩
  ·exact ⟨v, rfl, .inr ⟨.ret, _, ⟨rfl, k, p, e, hk, hp, he, rfl⟩, HM2⟩⟩
 ·
  clear HF HM; rintro B a w6 _ ⟨k, p, f, hf, hk, hp, he, hkn, hpn, rfl⟩ HF HM
  have hz := qed (f := f) (l := []) rfl
  rw [hz] at hk hp he
  simp only [List.length_nil, Nat.add_zero] at hk hp
  refine wp_seq ?_
  refine qad HM [.obj B (.deferred (some [])), .blk g6 #[vI p] 3, .blk g5 #[vI k] 3, .blk g4 #[vI 0] 36, .blk g3 #[vI 0] 3] [0, 1, 2, 3, 4] [3, 4] fun HM HS => ?_
  refine ay HF HS 0 rfl rfl rfl (Yl.qh rfl rfl (by kernel_rfl) (fun _ h => h.cell (i := 2) rfl rfl)) fun a HF => ?_
  refine ay HF HS 1 rfl rfl rfl (Yl.qh rfl rfl (by kernel_rfl) (fun _ h => h.cell (i := 1) rfl rfl)) fun a HF => ?_
  refine qi [2] (by kernel_rfl) rfl ?_
  refine all_cons ?_ all_nil
  refine qk HF (i := 2) rfl rfl ?_
  refine qo HF HM (i := 5) (cs := #[vI 0]) rfl rfl rfl rfl (by kernel_rfl) rfl rfl (by simp) ?_
  clear HM; intro w11_2 HM
  refine keepS (HM.picks [0, 1, 2, 3, 4] (by decide) rfl) (fun HS => ?_)
  refine qi [3] (by kernel_rfl) rfl ?_
  refine all_cons ?_ all_nil
  refine qk HF (i := 3) rfl rfl ?_
  refine qo HF HM (i := 4) (cs := #[vI 0]) rfl rfl rfl rfl (by kernel_rfl) rfl rfl (by simp) ?_
  clear HM; intro w11_3 HM
  refine noS (by kernel_rfl) ?_
  refine qi [4] (by kernel_rfl) rfl ?_
  refine all_cons ?_ all_nil
  refine qk HF (i := 4) rfl rfl ?_
  refine qo HF HM (i := 3) (cs := #[vI 0]) rfl rfl rfl rfl (by kernel_rfl) rfl rfl (by simp) ?_
  clear HM; intro w11_4 HM
  refine noS (by kernel_rfl) ?_
  refine qn (by kernel_rfl) ?_
  refine wp_ret ?_
  refine qi7 HF HM (i := 0) rfl fun a w7 HF HM => ?_
  exact ret3 rfl HF (.cell1 (i := 5) HF HM rfl rfl (by kernel_rfl) rfl) (.cell1 (i := 4) HF HM rfl rfl (by kernel_rfl) rfl) (.cell1 (i := 3) HF HM rfl rfl (by kernel_rfl) rfl) (⟨by rw [show qbo l = qq l.length l from if_neg (by omega), hk, hp, he]; rfl, HM.below⟩)
 ·
  clear HF HM; rintro _ B a w6 _ ⟨rfl, k, p, e, hk, hp, he, rfl⟩ HF HM
  refine wp_ret ?_
  refine qi7 HF HM (i := 0) rfl fun a w7 HF HM => ?_
  exact ret3 rfl HF (.cell1 (i := 5) HF HM rfl rfl (by kernel_rfl) rfl) (.cell1 (i := 4) HF HM rfl rfl (by kernel_rfl) rfl) (.cell1 (i := 3) HF HM rfl rfl (by kernel_rfl) rfl) (⟨by rw [show qbo l = qq l.length l from if_neg (by omega), hk, hp, he]; rfl, HM.below⟩)
def outsL (bs : List Bk) : List Nat := bs.flatMap Bk.out
def errL : List Bk → Nat
 | [] => 0
 | b :: t => if b.err = 0 then errL t else b.err
def zr (bs : List Bk) : List Nat × Nat := if errL bs ≠ 0 then ([], errL bs) else if 524288 < (outsL bs).length then ([], 3) else (outsL bs, 0)
theorem qn8 {bs : List Bk} (h : errL bs ≠ 0) : zr bs = ([], errL bs) := by unfold zr; rw [if_pos h]
theorem ql2 {bs : List Bk} (h : errL bs = 0) (h2 : 524288 < (outsL bs).length) : zr bs = ([], 3) := by unfold zr; rw [if_neg (by omega), if_pos h2]
theorem qkl {bs : List Bk} (h : errL bs = 0) (h2 : ¬ 524288 < (outsL bs).length) : zr bs = (outsL bs, 0) := by unfold zr; rw [if_neg (by omega), if_neg h2]
theorem qn9 (bs : List Bk) : (zr bs).1.length ≤ 524288 := by
 unfold zr
 split
 ·exact Nat.zero_le _
 ·split
  ·exact Nat.zero_le _
  ·dsimp only; omega
theorem qwv {q : List Hb} {k : Nat} (h : k < q.length) : errL ((q.drop k).map Hb.b) = if (q.getD k Hb.zero).b.err = 0 then errL ((q.drop (k + 1)).map Hb.b) else (q.getD k Hb.zero).b.err := by
 rw [qd3 Hb.zero h, List.map_cons, errL]
theorem qui {q : List Hb} {k : Nat} (h : k < q.length) : outsL ((q.take (k + 1)).map Hb.b) = outsL ((q.take k).map Hb.b) ++ (q.getD k Hb.zero).b.out := by
 unfold outsL
 rw [qe3 Hb.zero h, List.map_append, List.flatMap_append]
 simp
theorem qe5 (bs : List Bk) : (outsL bs).length ≤ 4096 * bs.length := by
 unfold outsL
 induction bs with
 | nil => exact Nat.zero_le _
 | cons b t ih =>
  rw [List.flatMap_cons, List.length_append, List.length_cons]
  have := qqi b
  omega
theorem qre {q : List Hb} (k : Nat) : (outsL ((q.take k).map Hb.b)).length ≤ 4096 * q.length := by
 have h := qe5 ((q.take k).map Hb.b)
 rw [List.length_map, List.length_take] at h
 have : min k q.length ≤ q.length := Nat.min_le_right _ _
 omega
theorem qvn {bs : List Bk} (h : ∀ b ∈ bs, b.Ok) : ∀ x ∈ outsL bs, x < 256 := by
 intro x hx
 unfold outsL at hx
 obtain ⟨b, hb, hx⟩ := List.mem_flatMap.1 hx
 exact qwq (h b hb) x hx
theorem qrf (a b : List Bk) : outsL (a ++ b) = outsL a ++ outsL b := by unfold outsL; rw [List.flatMap_append]
def qa7 (out : List Nat) (bs : List Bk) : List Nat × Nat := if (zr bs).2 ≠ 0 then (out, (zr bs).2) else if 524288 < out.length + (zr bs).1.length then (out, 3) else (out ++ (zr bs).1, 0)
theorem qoa {out : List Nat} {bs : List Bk} (h : (zr bs).2 ≠ 0) : qa7 out bs = (out, (zr bs).2) := by unfold qa7; rw [if_pos h]
theorem ql3 {out : List Nat} {bs : List Bk} (h : (zr bs).2 = 0) (h2 : 524288 < out.length + (zr bs).1.length) : qa7 out bs = (out, 3) := by unfold qa7; rw [if_neg (by omega), if_pos h2]
theorem qrg {out : List Nat} {bs : List Bk} (h : (zr bs).2 = 0) (h2 : ¬ 524288 < out.length + (zr bs).1.length) : qa7 out bs = (out ++ (zr bs).1, 0) := by unfold qa7; rw [if_neg (by omega), if_neg h2]
def endB (next : Int) : Bk := ⟨2, 0, 0, next, []⟩
theorem qvo {next : Int} (h : I64 next) : (endB next).Ok := ⟨by show 2 < 256; decide, by show 0 < 256; decide, by show I64 0; unfold I64; decide, h, by intro e he; cases he⟩
def nextR (l : List Nat) (p : Nat) : Bk × Nat × Nat := if p = l.length then (Bk.zero, 0, 6) else readB (l.drop p)
def readAll (l : List Nat) : List Bk × Nat := if (qbo l).2.2 ≠ 0 then ([], (qbo l).2.2) else ((qbo l).1, 0)
theorem qkm {l : List Nat} (h : 524288 < l.length) : readAll l = ([], 3) := by unfold readAll qbo; rw [if_pos h]; rfl
theorem ql4 {l : List Nat} {e : Nat} (h : ¬ 524288 < l.length) (he : (qq l.length l).2.2 = e) (hen : e ≠ 0) : readAll l = ([], e) := by unfold readAll qbo; rw [if_neg h, if_pos (by omega), he]
theorem qob {l : List Nat} (h : ¬ 524288 < l.length) (he : (qq l.length l).2.2 = 0) : readAll l = ((qq l.length l).1, 0) := by unfold readAll qbo; rw [if_neg h, if_neg (by omega)]
section
variable {W w : World} {fs : List Fact} {t bt : TypeId}
theorem Mem.reBlk (h : Mem W w fs) {i g : Nat} {cs ds : Array Value} {t : TypeId} (hi : fs[i]? = some (.blk g cs t)) (he : cs = ds) : Mem W w (fs.set i (.blk g ds t)) := by
 subst he
 obtain ⟨hl, h2⟩ := List.getElem?_eq_some_iff.1 hi
 rw [← h2, List.set_getElem_self]
 exact h
theorem qh9 {w w' : World} {p : List Nat × Nat} {er : Nat} {n : Int} (hb : Below w.heap.size w w') (he : p = ([], er)) (hn : n = er) : qas w p.2 p.1 (.returned (.tuple #[.slice none 0 0, .int .i64 n])) w' := by
 subst he; subst hn
 exact ⟨⟨none, 0, rfl, World.ownsRow_nil _ _ _ _, Nat.le_refl _⟩, hb⟩
theorem qkn {p : List Bk × Nat} {er : Nat} {n : Int} (h : Mem W w fs) (he : p = ([], er)) (hn : n = er) : qf4 t bt W p.2 p.1 (.returned (.tuple #[.slice none 0 0, .int .i64 n])) w := by
 subst he; exact qdt h hn
end
section
variable {W w w' : World} {fs gs : List Fact} {f g1 g2 : Fact}
end
def WrIs (W : World) (tw : TypeId) (g : Nat) (lim : Int) (out : List Nat) (fs : List Fact) (v : Value) (r : Ending) (w' : World) : Prop :=
 r = .returned v ∧ ∃ A c, out.length ≤ c ∧ Mem W w' (.blk g #[.int .i64 lim, .slice A out.length c] tw :: .row (.slice A out.length c) out.length (out.map B8) 5 1 :: fs)
theorem WrIs.as {W w' : World} {tw : TypeId} {g : Nat} {lim : Int} {out out' : List Nat} {fs : List Fact} {v v' : Value} {r : Ending} (h : WrIs W tw g lim out fs v r w') (h1 : out = out') (h2 : v = v') : WrIs W tw g lim out' fs v' r w' := by subst h1; subst h2; exact h
theorem ql5 {out R : List Nat} {bs : List Bk} {er : Nat} (h : zr bs = (R, er)) (he : er ≠ 0) : qa7 out bs = (out, er) := by have h1 := qoa (out := out) (bs := bs) (by rw [h]; exact he); rw [h] at h1; exact h1
theorem qko {out R : List Nat} {bs : List Bk} {er : Nat} (h : zr bs = (R, er)) (he : er = 0) (h2 : 524288 < out.length + R.length) : qa7 out bs = (out, 3) := ql3 (by rw [h]; exact he) (by rw [h]; exact h2)
theorem qoc {out R : List Nat} {bs : List Bk} {er : Nat} (h : zr bs = (R, er)) (he : er = 0) (h2 : ¬ 524288 < out.length + R.length) : qa7 out bs = (out ++ R, 0) := by have h1 := qrg (out := out) (bs := bs) (by rw [h]; exact he) (by rw [h]; exact h2); rw [h] at h1; exact h1
theorem qi8 {W w' : World} {tw : TypeId} {g c : Nat} {lim n : Int} {A : Option Addr} {out : List Nat} {er : Nat} {fs : List Fact} {p : List Nat × Nat} (h : p = (out, er)) (hn : n = er) (hc : out.length ≤ c) (hm : Mem W w' (.blk g #[.int .i64 lim, .slice A out.length c] tw :: .row (.slice A out.length c) out.length (out.map B8) 5 1 :: fs)) : WrIs W tw g lim p.1 fs (.int .i64 (p.2 : Int)) (.returned (.int .i64 n)) w' := by
 subst h; subst hn
 exact ⟨rfl, A, c, hc, hm⟩
section
variable {W w w' : World} {fs gs : List Fact} {f1 f2 : Fact}
end
theorem qod {l : List Nat} {b : Bk} {m er : Nat} (hl : ∀ x ∈ l, x < 256) (h : readB l = (b, m, er)) : m ≤ l.length := by
 by_cases he : er = 0
 ·subst he; exact (qgd hl h).len
 ·have := (qqq h he).2; omega
theorem qrh {l : List Nat} {p : Nat} {b : Bk} {m er : Nat} (hl : ∀ x ∈ l, x < 256) (hp : p ≤ l.length) (h : nextR l p = (b, m, er)) : p + m ≤ l.length := by
 unfold nextR at h
 split at h
 ·injection h with _ h; injection h with h _; omega
 ·have := qod (qa4 hl p) h
  rw [List.length_drop] at this
  omega
def quj (W : World) (tr : TypeId) (g p : Nat) (l : List Nat) (A : Option Addr) (c : Nat) (fs : List Fact) (q : Bk × Nat × Nat) (r : Ending) (w' : World) : Prop :=
 ∃ A' c', r = .returned (.tuple #[.agg (q.1.cells A' c'), .int .i64 (q.2.2 : Int)]) ∧ q.1.evs.length ≤ c' ∧ Mem W w' (.row (.slice A' q.1.evs.length c') q.1.evs.length (q.1.evs.flatMap evL) 45 11 :: .blk g #[.bool true, .int .i64 ((p + q.2.1 : Nat) : Int), .slice A l.length c] tr :: .row (.slice A l.length c) l.length (l.map B8) 5 1 :: fs)
theorem qkp {W w' : World} {tr : TypeId} {g p c c' m er : Nat} {l : List Nat} {A A' : Option Addr} {fs : List Fact} {q : Bk × Nat × Nat} {b : Bk} (h : q = (b, m, er)) {n : Int} (hn : n = er) (hc : b.evs.length ≤ c') (hm : Mem W w' (.row (.slice A' b.evs.length c') b.evs.length (b.evs.flatMap evL) 45 11 :: .blk g #[.bool true, .int .i64 ((p + m : Nat) : Int), .slice A l.length c] tr :: .row (.slice A l.length c) l.length (l.map B8) 5 1 :: fs)) :
  quj W tr g p l A c fs q (.returned (.tuple #[.agg (b.cells A' c'), .int .i64 n])) w' := by
 subst h; subst hn
 exact ⟨A', c', rfl, hc, hm⟩
theorem Rd.qv0 {w : World} {B : Nat} {l : List Nat} (h : Rd w B 1 none l.length (l.map B8)) : l = [] := by
 rcases Nat.eq_zero_or_pos l.length with h0 | h0
 ·exact List.length_eq_zero_iff.1 h0
 ·obtain ⟨a, ha, _⟩ := h.row h0
  cases ha
theorem LaidX.mem2 {B : Nat} {W w w' : World} {fs gs : List Fact} (h : LaidX B w) (HW : Mem W w fs) (HM : Mem W w' gs) (hB : B ≤ W.heap.size) : LaidX B w' := h.qaa fun p hp => by
 rw [HM.below.cell (by omega), HW.below.cell (by omega)]
theorem Mem.qv1 {W w : World} {a b : List Fact} {t : TypeId} {q : List Hb} (h : Mem W w (a ++ (hbF t q ++ b))) : HbRd w q := h.hbRd fun _ hf => List.mem_append_right _ (List.mem_append_left _ hf)
def pick9 : Ev := { Ev.zero with seq := 9, time := 340, cpu := 2, kind := 6 }
def exI : List It := [⟨tickE, 3⟩, ⟨pick9, 0⟩]
theorem qvw : pick9.Ok := ⟨⟨by decide, by decide⟩, ⟨by decide, by decide⟩, by decide, by decide, ⟨by decide, by decide⟩, ⟨by decide, by decide⟩, ⟨by decide, by decide⟩, ⟨by decide, by decide⟩, ⟨by decide, by decide⟩, by decide, ⟨by decide, by decide⟩⟩
theorem qup : ∀ x ∈ exI, x.Ok := by
 intro x hx
 simp only [exI, List.mem_cons, List.not_mem_nil, or_false] at hx
 rcases hx with rfl | rfl
 ·exact ⟨qws, by show I64 3; unfold I64; decide⟩
 ·exact ⟨qvw, by show I64 0; unfold I64; decide⟩
theorem sa1 : cutS 2 exI 2 1 = ([⟨1, 2, 3, 0, [tickE]⟩, ⟨1, 2, 2, 0, [pick9]⟩], 0) := by decide +kernel
theorem sa2 : cutS 2 exI 2 2 = ([⟨1, 2, 5, 0, [tickE, pick9]⟩], 0) := by decide +kernel
theorem sa3 : cutS 2 [] 0 1 = ([], 0) := by decide +kernel
theorem sa4 : cutS 2 [] 2 1 = ([⟨1, 2, 2, 0, []⟩], 0) := by decide +kernel
theorem sa5 : qa7 [] [endB 0] = ([], 107) := by decide +kernel
theorem sa6 : qa7 [] [endB 7] = (awX, 0) := by decide +kernel
theorem sa7 : qbo (awX ++ [1]) = ([⟨2, 0, 0, 7, []⟩], 13, 100) := by decide +kernel
theorem sa8 : nextR awX 0 = (⟨2, 0, 0, 7, []⟩, 13, 0) := by decide +kernel
theorem sa9 : nextR awX 13 = (Bk.zero, 0, 6) := by decide +kernel
theorem qvx : ∀ b ∈ awX ++ [1], b < 256 := by decide
theorem map1 {q : List Hb} {b : Bk} (h : q.map Hb.b = [b]) : ∃ x, q = [x] ∧ x.b = b := by
 cases q with
 | nil => cases h
 | cons x r =>
  cases r with
  | nil => injection h with h _; exact ⟨x, rfl, h⟩
  | cons y r => injection h with _ h; cases h
theorem map2 {q : List Hb} {b d : Bk} (h : q.map Hb.b = [b, d]) : ∃ x y, q = [x, y] ∧ x.b = b ∧ y.b = d := by
 cases q with
 | nil => cases h
 | cons x r =>
  injection h with h1 h2
  obtain ⟨y, rfl, h3⟩ := map1 h2
  exact ⟨x, y, rfl, h1, h3⟩
structure Ss where
 cpu : Nat
 b : Bs
 l : List Sm
 bef : List Nat
 opn : Nat
structure Ss.Ok (x : Ss) : Prop where
 cpu : x.cpu < 256
 b : x.b.Ok
 l : ∀ y ∈ x.l, y.Ok
 bef : ∀ y ∈ x.bef, y < 4294967296
 opn : x.opn < 4294967296
def Ss.cells (x : Ss) (A : Option Addr) (c : Nat) (A2 : Option Addr) (c2 : Nat) : Array Value := #[.int .u8 (x.cpu : Int), .int .i64 x.b.seq, .int .i64 x.b.time, .slice A x.l.length c, .slice A2 x.bef.length c2, .int .u32 (x.opn : Int)]
def W32 (y : Nat) : Value := .int .u32 (y : Int)
def befAt (bef : List Nat) (i : Nat) : Nat := if bef.length = 0 then 0 else bef.getD (i % bef.length) 0
def qww (bef : List Nat) (es : List Ev) (n : Nat) : List It := (List.range n).map fun i => ⟨es.getD i Ev.zero, (befAt bef i : Int)⟩
def Ss.es (x : Ss) : List Ev := madeL x.cpu x.b x.l
def Ss.items (x : Ss) : List It := qww x.bef x.es x.es.length
end Go.Proofs.YtfeheccoijnbaaaDoor
namespace Go.Proofs.YtfeheccoijnbaaaDoor
open Go.RowKit Go.ChangeShapes Go.WideShapes Go.ChangeAt
def ql8 : List Go.IntKind := [.u8, .u8, .u32, .u32, .u32, .u32, .u32, .u32, .u32, .u32, .u64]
theorem qrm : qem Tryd.prog 124 ql8 = true := by kernel_rfl
theorem qoi : Tryd.prog.underlying 27 = some (.slice 124) := by kernel_rfl
theorem qrn {cs : List Value} (hl : cs.length = ql8.length) (h : ∀ (i : Nat) (k : Go.IntKind), ql8[i]? = some k → ∃ z : Int, cs[i]? = some (Value.int k z) ∧ (Lit.int k z).wf = true) : ∃ x : Sm, smL x = cs ∧ x.Ok := by
 obtain ⟨z0, h0, w0⟩ := h 0 .u8 rfl
 have w0 := u8_wf w0
 obtain ⟨z1, h1, w1⟩ := h 1 .u8 rfl
 have w1 := u8_wf w1
 obtain ⟨z2, h2, w2⟩ := h 2 .u32 rfl
 have w2 := qen w2
 obtain ⟨z3, h3, w3⟩ := h 3 .u32 rfl
 have w3 := qen w3
 obtain ⟨z4, h4, w4⟩ := h 4 .u32 rfl
 have w4 := qen w4
 obtain ⟨z5, h5, w5⟩ := h 5 .u32 rfl
 have w5 := qen w5
 obtain ⟨z6, h6, w6⟩ := h 6 .u32 rfl
 have w6 := qen w6
 obtain ⟨z7, h7, w7⟩ := h 7 .u32 rfl
 have w7 := qen w7
 obtain ⟨z8, h8, w8⟩ := h 8 .u32 rfl
 have w8 := qen w8
 obtain ⟨z9, h9, w9⟩ := h 9 .u32 rfl
 have w9 := qen w9
 obtain ⟨z10, h10, w10⟩ := h 10 .u64 rfl
 have w10 := qwe w10
 refine ⟨⟨z0.toNat, z1.toNat, z2.toNat, z3.toNat, z4.toNat, z5.toNat, z6.toNat, z7.toNat, z8.toNat, z9.toNat, z10.toNat⟩, ?_, ⟨by show z0.toNat < _; omega, by show z1.toNat < _; omega, by show z2.toNat < _; omega, by show z3.toNat < _; omega, by show z4.toNat < _; omega, by show z5.toNat < _; omega, by show z6.toNat < _; omega, by show z7.toNat < _; omega, by show z8.toNat < _; omega, by show z9.toNat < _; omega, by show z10.toNat < _; omega⟩⟩
 refine qpl (by rw [hl]; rfl) fun i hi => ?_
 have hi' : i < 11 := by rw [hl] at hi; exact hi
 have hc : i = 0 ∨ i = 1 ∨ i = 2 ∨ i = 3 ∨ i = 4 ∨ i = 5 ∨ i = 6 ∨ i = 7 ∨ i = 8 ∨ i = 9 ∨ i = 10 := by omega
 rcases hc with rfl | rfl | rfl | rfl | rfl | rfl | rfl | rfl | rfl | rfl | rfl
 ·rw [h0]; show some (Value.int .u8 ((z0.toNat : Nat) : Int)) = _; rw [Int.toNat_of_nonneg w0.1]
 ·rw [h1]; show some (Value.int .u8 ((z1.toNat : Nat) : Int)) = _; rw [Int.toNat_of_nonneg w1.1]
 ·rw [h2]; show some (Value.int .u32 ((z2.toNat : Nat) : Int)) = _; rw [Int.toNat_of_nonneg w2.1]
 ·rw [h3]; show some (Value.int .u32 ((z3.toNat : Nat) : Int)) = _; rw [Int.toNat_of_nonneg w3.1]
 ·rw [h4]; show some (Value.int .u32 ((z4.toNat : Nat) : Int)) = _; rw [Int.toNat_of_nonneg w4.1]
 ·rw [h5]; show some (Value.int .u32 ((z5.toNat : Nat) : Int)) = _; rw [Int.toNat_of_nonneg w5.1]
 ·rw [h6]; show some (Value.int .u32 ((z6.toNat : Nat) : Int)) = _; rw [Int.toNat_of_nonneg w6.1]
 ·rw [h7]; show some (Value.int .u32 ((z7.toNat : Nat) : Int)) = _; rw [Int.toNat_of_nonneg w7.1]
 ·rw [h8]; show some (Value.int .u32 ((z8.toNat : Nat) : Int)) = _; rw [Int.toNat_of_nonneg w8.1]
 ·rw [h9]; show some (Value.int .u32 ((z9.toNat : Nat) : Int)) = _; rw [Int.toNat_of_nonneg w9.1]
 ·rw [h10]; show some (Value.int .u64 ((z10.toNat : Nat) : Int)) = _; rw [Int.toNat_of_nonneg w10.1]
section
variable {H : Type} {enc : TypeId × Value → H} {W : World} {b0 : Nat} {v : Value} {d : DataW H} {p : List MemPlace}
theorem qtj : Tryd.prog.cellsOf 124 = 11 := by kernel_rfl
theorem qvs {fuel : Nat} {cs : List Value} {x : DataW H × List MemPlace} (hf : DataW.trod enc Tryd.prog W 0 (fun _ => true) true fuel 124 cs = some x) : ∃ e : Sm, smL e = cs ∧ e.Ok := by
 obtain ⟨h1, h2⟩ := qgn qrm hf
 exact qrn h1 h2
theorem qtk {fuel : Nat} {cs : List Value} {x : DataW H × List MemPlace} (hf : DataW.trod enc Tryd.prog W 0 (fun _ => true) true fuel 27 cs = some x) :
  ∃ (A : Option Addr) (c : Nat) (l : List Sm), cs = [.slice A l.length c] ∧ l.length ≤ c ∧ c ≤ maxLen ∧ (∀ x ∈ l, x.Ok) ∧ Rd W W.heap.size 11 A l.length (l.flatMap smL) :=
 qh8 smL Sm.Ok qoi qtj (by decide) qft (fun _ _ _ h => qvs h) hf
theorem qro : Tryd.prog.cellsOf 29 = 1 := by kernel_rfl
theorem qrp : Tryd.prog.cellsOf 27 = 1 := by kernel_rfl
theorem qtl {fuel : Nat} {cs : List Value} {x : DataW H × List MemPlace} (hf : DataW.trod enc Tryd.prog W 0 (fun _ => true) true fuel 29 cs = some x) : ∃ e : Nat, [W32 e] = cs ∧ e < 4294967296 := by
 obtain ⟨z, e1, _, w1⟩ := DataW.trod_int qqb hf
 have := qen w1
 exact ⟨z.toNat, by rw [e1]; show [Value.int .u32 ((z.toNat : Nat) : Int)] = _; rw [Int.toNat_of_nonneg this.1], by omega⟩
theorem qvt {cs : List Value} {a b c d e f : Value} (hl : cs.length = 6) (h0 : cs[0]? = some a) (h1 : cs[1]? = some b) (h2 : cs[2]? = some c) (h3 : cs[3]? = some d) (h4 : cs[4]? = some e) (h5 : cs[5]? = some f) : cs = [a, b, c, d, e, f] := by
 refine qpl hl fun i hi => ?_
 have hi' : i < 6 := hi
 have hc : i = 0 ∨ i = 1 ∨ i = 2 ∨ i = 3 ∨ i = 4 ∨ i = 5 := by omega
 rcases hc with rfl | rfl | rfl | rfl | rfl | rfl <;> assumption
structure SsIn (W : World) (x : Ss) (A : Option Addr) (c : Nat) (A2 : Option Addr) (c2 : Nat) : Prop where
 ok : x.Ok
 hc : x.l.length ≤ c
 hm : c ≤ maxLen
 hc2 : x.bef.length ≤ c2
 hm2 : c2 ≤ maxLen
 rd : Rd W W.heap.size 11 A x.l.length (x.l.flatMap smL)
 rd2 : Rd W W.heap.size 1 A2 x.bef.length (x.bef.map W32)
end
end Go.Proofs.YtfeheccoijnbaaaDoor
namespace Go.Proofs.YtfeheccoijnbaaaDoor
open Go.RowKit
theorem qvu {b : Bk} (h : b.err = 0) : 13 ≤ b.out.length := by rw [qdv h]; have := qmz b; omega
theorem qid : ∀ (bs : List Bk) (rest : List Nat) (f : Nat), (∀ b ∈ bs, b.Ok ∧ b.err = 0) → (outsL bs ++ rest).length ≤ f →
  rest.length ≤ f - bs.length ∧ qq f (outsL bs ++ rest) = (bs ++ (qq (f - bs.length) rest).1, (outsL bs).length + (qq (f - bs.length) rest).2.1, (qq (f - bs.length) rest).2.2)
 | [], rest, f, _, hf => by
  refine ⟨hf, ?_⟩
  show qq f rest = _
  simp [outsL]
 | b :: t, rest, f, h, hf => by
  obtain ⟨hb, he⟩ := h b List.mem_cons_self
  have hp := qvu he
  have e : outsL (b :: t) ++ rest = b.out ++ (outsL t ++ rest) := by unfold outsL; rw [List.flatMap_cons, List.append_assoc]
  rw [e] at hf ⊢
  rw [List.length_append] at hf
  obtain ⟨i1, i2⟩ := qid t rest (f - 1) (fun x hx => h x (List.mem_cons_of_mem _ hx)) (by omega)
  refine ⟨by rw [List.length_cons]; omega, ?_⟩
  rw [qdi (by omega) (by rw [List.length_append]; omega) (qs7 hb he _), List.drop_left, i2]
  have e2 : f - 1 - t.length = f - (t.length + 1) := by omega
  have e3 : outsL (b :: t) = b.out ++ outsL t := by unfold outsL; rw [List.flatMap_cons]
  rw [List.length_cons, e2, e3, List.length_append, Nat.add_assoc]
  rfl
theorem qks {bs : List Bk} (h : ∀ b ∈ bs, b.Ok ∧ b.err = 0) (hl : (outsL bs).length ≤ 524288) : qbo (outsL bs) = (bs, (outsL bs).length, 0) := by
 have h1 := (qid bs [] (outsL bs).length h (by simp)).2
 rw [List.append_nil, qed (l := []) rfl] at h1
 unfold qbo
 rw [if_neg (by omega), h1, List.append_nil]
 rfl
theorem qoj {l : List Nat} {bs : List Bk} {p : Nat} (h : qbo l = (bs, p, 0)) : readAll l = (bs, 0) := by unfold readAll; rw [h]; rfl
theorem qkt : ∀ {bs : List Bk}, (∀ b ∈ bs, b.err = 0) → errL bs = 0
 | [], _ => rfl
 | b :: t, h => by
  rw [errL, if_pos (h b List.mem_cons_self)]
  exact qkt fun x hx => h x (List.mem_cons_of_mem _ hx)
theorem qfu {bs : List Bk} (h : ∀ b ∈ bs, b.err = 0) (hl : (outsL bs).length ≤ 524288) : zr bs = (outsL bs, 0) := qkl (qkt h) (by omega)
section
variable {W w : World} {a b c : List Fact} {t : TypeId} {q : List Hb}
theorem Mem.qr0 (h : Mem W w (a ++ (c ++ (hbF t q ++ b)))) : HbRd w q := h.hbRd fun _ hf => List.mem_append_right _ (List.mem_append_right _ (List.mem_append_left _ hf))
end
instance itDec : DecidableEq It := fun ⟨a, b⟩ ⟨c, d⟩ => decidable_of_iff (a = c ∧ b = d) (by rw [It.mk.injEq])
structure Sbm where
 x : Sb
 A : Option Addr
 c : Nat
def Sbm.zero : Sbm := ⟨⟨false, 0, 0, ⟨0, 0⟩, []⟩, none, 0⟩
def sbmL (h : Sbm) : List Value := (h.x.cells h.A h.c).toList
theorem qi9 (h : Sbm) : (sbmL h).length = 6 := rfl
structure SbmIn (W : World) (h : Sbm) : Prop where
 ok : h.x.Ok
 hc : h.x.l.length ≤ h.c
 hm : h.x.l.length ≤ 9223372036854775807
 rd : Rd W W.heap.size 11 h.A h.x.l.length (h.x.l.flatMap smL)
theorem qun : EI Tryd.prog 60 62 (.agg (Sbm.zero.x.cells none 0)) 6 48 := ⟨by kernel_rfl, by kernel_rfl, rfl, by omega⟩
def qcm (l : List Sbm) : List Bk := l.map fun h => h.x.made
theorem qie {l : List Sbm} {k : Nat} (h : k < l.length) : qcm (l.take (k + 1)) = qcm (l.take k) ++ [(l.getD k Sbm.zero).x.made] := by
 unfold qcm
 rw [qe3 Sbm.zero h, List.map_append]
 rfl
theorem qif {W : World} {l : List Sbm} (h : ∀ x ∈ l, SbmIn W x) : ∀ b ∈ qcm l, b.Ok ∧ b.err = 0 := fun b hb => by
 unfold qcm at hb
 obtain ⟨x, hx, rfl⟩ := List.mem_map.1 hb
 have := qkv (h x hx).ok
 exact ⟨this.1, this.2.1⟩
theorem qkw {W : World} {l : List Sbm} (h : ∀ x ∈ l, SbmIn W x) : ∀ b ∈ qcm l, b.evs.length ≤ 1000000 := fun b hb => by
 unfold qcm at hb
 obtain ⟨x, hx, rfl⟩ := List.mem_map.1 hb
 have := (qkv (h x hx).ok).2.2
 omega
theorem qkx (l : List Sbm) : (qcm l).length = l.length := by unfold qcm; rw [List.length_map]
theorem hb_of {q : List Hb} {bs : List Bk} (hq : q.map Hb.b = bs) {p : Bk → Prop} (h : ∀ b ∈ bs, p b) : ∀ x ∈ q, p x.b := fun x hx => h x.b (by rw [← hq]; exact List.mem_map_of_mem hx)
theorem qja (q : List Hb) : ∀ v ∈ q.flatMap hbL, v.oneCell' = true := by
 intro v hv
 obtain ⟨x, _, hx⟩ := List.mem_flatMap.1 hv
 exact qa6 _ _ _ v hx
theorem qm6 {w : World} {q q2 : List Hb} (h : HbRd w q) (h2 : HbRd w q2) : HbRd w (q ++ q2) := fun x hx => by
 rcases List.mem_append.1 hx with hx | hx
 ·exact h x hx
 ·exact h2 x hx
theorem hb_at {q : List Hb} {bs : List Bk} (hq : q.map Hb.b = bs) {k : Nat} (hk : k < bs.length) : (q.getD k Hb.zero).b = bs.getD k Bk.zero := by
 subst hq
 rw [List.length_map] at hk
 rw [List.getD_eq_getElem?_getD, List.getElem?_eq_getElem hk, List.getD_eq_getElem?_getD, List.getElem?_map, List.getElem?_eq_getElem hk]
 rfl
theorem qge {W : World} {l : List Sbm} (h : ∀ x ∈ l, SbmIn W x) (k : Nat) : ∀ x ∈ l.take k, SbmIn W x := fun x hx => h x (List.mem_of_mem_take hx)
theorem qtn {a b : List Bk} (h : a.length ≤ 5) (h2 : b.length ≤ 5) : (outsL a ++ outsL b).length ≤ 524288 := by
 have h3 := qe5 a
 have h4 := qe5 b
 rw [List.length_append]
 omega
end Go.Proofs.YtfeheccoijnbaaaDoor
namespace Go.Proofs.YtfeheccoijnbaaaDoor
open Go.RowKit Go.ChangeShapes Go.WideShapes Go.ChangeAt
section
variable {H : Type} {enc : TypeId × Value → H} {W : World} {b0 : Nat} {v : Value} {d : DataW H} {p : List MemPlace}
theorem qto : Tryd.prog.underlying 4 = some .bool := by kernel_rfl
theorem qok : Tryd.prog.cellsOf 4 = 1 := by kernel_rfl
theorem sb_f0 : fieldAt Tryd.prog 62 0 0 4 = true := by kernel_rfl
theorem sb_f1 : fieldAt Tryd.prog 62 1 1 5 = true := by kernel_rfl
theorem sb_f2 : fieldAt Tryd.prog 62 2 2 29 = true := by kernel_rfl
theorem sb_f3 : fieldAt Tryd.prog 62 3 3 26 = true := by kernel_rfl
theorem sb_f4 : fieldAt Tryd.prog 62 4 5 27 = true := by kernel_rfl
theorem qm7 : Tryd.prog.cellsOf 62 = 6 := by kernel_rfl
theorem qrq : Tryd.prog.underlying 60 = some (.slice 62) := by kernel_rfl
set_option maxRecDepth 100000 in
theorem qtp {fuel : Nat} {cs : List Value} {y : DataW H × List MemPlace} (hf : DataW.trod enc Tryd.prog W 0 (fun _ => true) true fuel 62 cs = some y) : ∃ x : Sbm, sbmL x = cs ∧ SbmIn W x := by
 obtain ⟨hl, _, y0, g0⟩ := qbj sb_f0 hf
 obtain ⟨_, _, y1, g1⟩ := qbj sb_f1 hf
 obtain ⟨_, _, y2, g2⟩ := qbj sb_f2 hf
 obtain ⟨_, _, y3, g3⟩ := qbj sb_f3 hf
 obtain ⟨_, _, y4, g4⟩ := qbj sb_f4 hf
 rw [qm7] at hl
 obtain ⟨e, e0, _⟩ := DataW.trod_bool qto g0
 obtain ⟨cpu, e1, _, w1⟩ := DataW.trod_int qtz g1
 obtain ⟨lo, e2, w2⟩ := qtl g2
 obtain ⟨_, h0⟩ := qgn qpm g3
 obtain ⟨s, hs0, ws⟩ := h0 0 .i64 rfl
 obtain ⟨t, ht0, wt⟩ := h0 1 .i64 rfl
 obtain ⟨A, c, l, e4, k1, k2, k3, k4⟩ := qtk g4
 rw [qok] at e0
 rw [qsd] at e1
 rw [qro] at e2
 rw [qrp] at e4
 have a0 := qcq e0
 have a1 := qcq e1
 have a2 := qcq e2.symm
 have a4 := qcq e4
 rw [qnm, List.getElem?_take, List.getElem?_drop] at hs0 ht0
 simp only [Nat.reduceLT, if_true] at hs0 ht0
 have u1 := u8_wf w1
 refine ⟨⟨⟨e, cpu.toNat, lo, ⟨s, t⟩, l⟩, A, c⟩, ?_, ⟨⟨by show cpu.toNat < 256; omega, w2, ⟨qt0 ws, qt0 wt⟩, k3⟩, k1, by unfold maxLen at k2; show l.length ≤ _; omega, k4⟩⟩
 refine ((qvt hl a0 a1 a2 hs0 ht0 a4).trans ?_).symm
 show _ = [Value.bool e, .int .u8 ((cpu.toNat : Nat) : Int), .int .u32 (lo : Int), .int .i64 s, .int .i64 t, .slice A l.length c]
 rw [Int.toNat_of_nonneg u1.1]
 rfl
set_option maxRecDepth 100000 in
theorem qm8 (hval : Value.okWide Tryd.prog W .any b0 60 v) (h : DataW.Trod enc Tryd.prog W 0 (fun _ => true) true 60 v d p) :
  ∃ (A : Option Addr) (c : Nat) (l : List Sbm), v = .slice A l.length c ∧ l.length ≤ c ∧ c ≤ maxLen ∧ (∀ x ∈ l, SbmIn W x) ∧ Rd W W.heap.size 6 A l.length (l.flatMap sbmL) := by
 obtain ⟨a0, len, cap, rfl⟩ := okWide_slice qrq hval
 obtain ⟨fuel, hf⟩ := h
 obtain ⟨A, c, l, hcs, h1⟩ := qh8 sbmL (SbmIn W) qrq qm7 (by decide) qi9 (fun _ _ _ h => qtp h) hf
 simp only [Value.cells, List.cons.injEq, and_true, Value.slice.injEq] at hcs
 obtain ⟨rfl, rfl, rfl⟩ := hcs
 exact ⟨_, _, l, rfl, h1⟩
end
end Go.Proofs.YtfeheccoijnbaaaDoor
namespace Go.Proofs.YtfeheccoijnbaaaDoor
open Go.RowKit
theorem ql9 (A : Option Addr) (c : Nat) (l : List Nat) (BB : Nat) (w : World) (hL : LaidX BB w) (hB : BB ≤ w.heap.size) (hr : Rd w w.heap.size 1 A l.length (l.map B8)) (hc : l.length ≤ c) (hl : ∀ b ∈ l, b < 256) (hn : l.length ≤ 100000000) :
    Calls Tryd.prog 21 #[.slice A l.length c] w (qf4 45 41 w (readAll l).2 (readAll l).1) := by
 refine qe4 (vs := [.slice A l.length c]) Tryd.func21 rfl rfl (by kernel_rfl) (σ0 := [(0, .slice A l.length c)]) rfl ?_
 intro a HF
 have HM := Mem.start w
 refine wp_seq (qa ?_)
 refine fo HF 0 rfl rfl ?_
 refine qr HF HM (cs := #[.slice none 0 0]) rfl (by kernel_rfl) rfl (by decide) ?_
 clear HF HM; intro a w2 g2 HF HM
 refine fo HF 1 rfl rfl ?_
 refine qr HF HM (cs := #[vI 0]) rfl (by kernel_rfl) rfl (by decide) ?_
 clear HF HM; intro a w3 g3 HF HM
 refine qb rfl (wp_seq (wp_seq (qa ?_)))
 refine fp HF 1 0 [(7, .slice A l.length c)] fun a HF => ?_
 refine fy HF HM 1 rfl rfl rfl (Yl.len rfl rfl (by kernel_rfl)) fun a HF => ?_
 refine fp HF 1 2 [(9, .bool (decide ((l.length : Int) > (524288 : Int))))] fun a HF => ?_
 refine qb rfl ?_
 rcases HF.tf 9 rfl with ⟨hb9, HF⟩ | ⟨hb9, HF⟩
 ·
  have hd9 := of_decide_eq_true hb9
  refine qf HF rfl (wp_seq (qa ?_))
  refine fo HF 0 rfl rfl ?_
  refine qo HF HM (i := 1) (cs := #[.slice none 0 0]) rfl rfl rfl rfl (by kernel_rfl) rfl rfl (by simp) ?_
  clear HM; intro w2_0 HM
  refine fo HF 1 rfl rfl ?_
  refine qo HF HM (i := 0) (cs := #[vI 0]) rfl rfl rfl rfl (by kernel_rfl) rfl rfl (by simp) ?_
  clear HM; intro w2_1 HM
  refine qb rfl (wp_ret ?_)
  refine quh ?_
  exact ret2 rfl HF (.cell1 (i := 1) HF HM rfl rfl (by kernel_rfl) rfl) (.cell1 (i := 0) HF HM rfl rfl (by kernel_rfl) rfl) (qkn HM (qkm (by omega)) rfl)
 have hd9 := of_decide_eq_false hb9
 refine qe HF rfl (wp_skip (wp_seq (qa ?_)))
 refine fo HF 0 rfl rfl ?_
 refine qr HF HM (cs := #[.slice none 0 0]) rfl (by kernel_rfl) rfl (by decide) ?_
 clear HF HM; intro a w4 g4 HF HM
 refine qb rfl (wp_seq (wp_seq (qa ?_)))
 refine fp HF 1 0 [(10, .slice A l.length c)] fun a HF => ?_
 refine fo HF 1 rfl rfl ?_
 refine e_cl HF [.slice A l.length c] rfl rfl (qky A l.length c _) ?_
 rintro _ w11 ⟨gp, rfl, hm⟩
 refine ⟨_, rfl, ?_⟩
 replace HM := HM.join hm
 clear HF; intro a HF
 refine qb rfl ?_
 replace HM := HM.nil 41 5
 replace HM : Mem w _ (.row (.slice none 0 0) 0 [] 41 5 :: .blk gp #[.slice A l.length c] 54 :: .blk g4 #[.slice none 0 0] 35 :: .blk g3 #[vI 0] 36 :: .blk g2 #[.slice none 0 0] 35 :: hbF 45 []) := HM
 refine wp_block ?_
 refine qug HF HM (fun F => ∃ (q : List Hb) (f : Nat) (Ao : Option Addr) (co : Nat), (([] : List Nat).length ≤ f) ∧ (q.map Hb.b ++ (qq f ([] : List Nat)).1 = (qq l.length l).1) ∧ ((qq l.length l).2.2 = (qq f ([] : List Nat)).2.2) ∧ (q.length ≤ co) ∧ (q.length + ([] : List Nat).length ≤ l.length) ∧ F = (.row (.slice Ao q.length co) q.length (q.flatMap hbL) 41 5 :: .blk g4 #[.slice Ao q.length co] 35 :: .blk g3 #[vI 0] 36 :: .blk g2 #[.slice none 0 0] 35 :: hbF 45 q)) (fun c F => c = .ret ∧ ∃ (q : List Hb) (e : Nat), (e ≠ 0) ∧ ((qq l.length l).2.2 = e) ∧ F = (.blk g3 #[vI e] 36 :: .blk g2 #[.slice none 0 0] 35 :: hbF 45 q)) rfl (by kernel_rfl) ?_ ?_ ?_
 ·
  clear HF HM; intro lp B rec w1 hrec HM
  have hy : qfs w lp (fun rest F => ∃ (q : List Hb) (f : Nat) (Ao : Option Addr) (co : Nat), (rest.length ≤ f) ∧ (q.map Hb.b ++ (qq f rest).1 = (qq l.length l).1) ∧ ((qq l.length l).2.2 = (qq f rest).2.2) ∧ (q.length ≤ co) ∧ (q.length + rest.length ≤ l.length) ∧ F = (.obj lp (.loop (rec .ready none)) :: .obj B (.deferred (some [])) :: (.row (.slice Ao q.length co) q.length (q.flatMap hbL) 41 5 :: .blk g4 #[.slice Ao q.length co] 35 :: .blk g3 #[vI 0] 36 :: .blk g2 #[.slice none 0 0] 35 :: hbF 45 q))) (fun F => ∃ (q : List Hb) (e : Nat), (e ≠ 0) ∧ ((qq l.length l).2.2 = e) ∧ F = (.obj lp (.loop (rec .done (some .ret))) :: .obj B (.deferred (some [])) :: (.blk g3 #[vI e] 36 :: .blk g2 #[.slice none 0 0] 35 :: hbF 45 q))) := by
   rintro rest F fr w3 A9 c9 b m er ⟨q, f, Ao, co, hf, hk, he, hco, hql, rfl⟩ hq hne hrl hcb HM
   replace HM := HM.picksT (fs' := (.obj lp (.loop (rec .ready none)) :: .row (.slice A9 b.evs.length c9) b.evs.length (b.evs.flatMap evL) 45 11 :: .obj B (.deferred (some [])) :: .row (.slice Ao q.length co) q.length (q.flatMap hbL) 41 5 :: .blk g4 #[.slice Ao q.length co] 35 :: .blk g3 #[vI 0] 36 :: .blk g2 #[.slice none 0 0] 35 :: (hbF 45 q ++ (fr)))) 7 [1, 0, 2, 3, 4, 5, 6] (by decide) (by decide) rfl
   refine qf7 (v1 := .agg #[.int .u8 (b.kind : Int), .int .u8 (b.cpu : Int), .int .i64 b.lost, .int .i64 b.next, .slice A9 b.evs.length c9, .int .i64 (m : Int)]) (v2 := vI er) hrec HM (by decide) (by decide) fun a HF => ?_
   refine wpIn_seq ?_
   refine zl ?_
   refine fo HF 0 rfl rfl ?_
   refine qr HF HM (cs := #[vB 0, vB 0, vI 0, vI 0, .slice none 0 0, vI 0]) rfl (by kernel_rfl) rfl (by decide) ?_
   clear HF HM; intro a w5 g5 HF HM
   refine fo HF 1 rfl rfl ?_
   refine e_sa HF HM 0 rfl rfl rfl rfl rfl qrr rfl rfl (by simp [Value.oneCell']) ?_
   clear HM; intro w5_1 HM
   refine qb rfl ?_
   refine zl ?_
   refine fp HF 1 0 [(6, vI er)] fun a HF => ?_
   refine qb rfl ?_
   refine ⟨(.blk g5 #[.int .u8 (b.kind : Int), .int .u8 (b.cpu : Int), .int .i64 b.lost, .int .i64 b.next, .slice A9 b.evs.length c9, .int .i64 (m : Int)] 102 :: .row (.slice A9 b.evs.length c9) b.evs.length (b.evs.flatMap evL) 45 11 :: .obj B (.deferred (some [])) :: .row (.slice Ao q.length co) q.length (q.flatMap hbL) 41 5 :: .blk g4 #[.slice Ao q.length co] 35 :: .blk g3 #[vI 0] 36 :: .blk g2 #[.slice none 0 0] 35 :: (hbF 45 q ++ (fr))), HM.picksT (fs' := (.obj lp (.loop (rec .ready none)) :: .blk g5 #[.int .u8 (b.kind : Int), .int .u8 (b.cpu : Int), .int .i64 b.lost, .int .i64 b.next, .slice A9 b.evs.length c9, .int .i64 (m : Int)] 102 :: .row (.slice A9 b.evs.length c9) b.evs.length (b.evs.flatMap evL) 45 11 :: .obj B (.deferred (some [])) :: .row (.slice Ao q.length co) q.length (q.flatMap hbL) 41 5 :: .blk g4 #[.slice Ao q.length co] 35 :: .blk g3 #[vI 0] 36 :: .blk g2 #[.slice none 0 0] 35 :: (hbF 45 q ++ (fr)))) 8 [1, 0, 2, 3, 4, 5, 6, 7] (by decide) (by decide) rfl, fun w4 HM => ?_⟩
   refine wpIn_block ?_
   refine wpIn_seq ?_
   refine wpIn_seq ?_
   refine zl ?_
   refine fp HF 2 0 [(15, .bool ((er : Int) != (0 : Int)))] fun a HF => ?_
   refine qb rfl ?_
   rcases HF.tf 15 rfl with ⟨hb15, HF⟩ | ⟨hb15, HF⟩
   ·
    have hd15 := bne_iff_ne.1 hb15
    have hg := qg8 (f := f) (by omega) hne hq (by omega)
    rw [hg] at he
    refine qg7 HF rfl ?_
    refine wpIn_seq ?_
    refine zl ?_
    refine fp HF 1 0 [(16, vI er)] fun a HF => ?_
    refine fo HF 1 rfl rfl ?_
    refine qo HF HM (i := 7) (cs := #[.slice none 0 0]) rfl rfl rfl rfl (by kernel_rfl) rfl rfl (by simp) ?_
    clear HM; intro w8_1 HM
    refine fo HF 2 rfl rfl ?_
    refine qo HF HM (i := 6) (cs := #[vI 0]) rfl rfl rfl rfl (by kernel_rfl) rfl rfl (by simp) ?_
    clear HM; intro w8_2 HM
    refine qb rfl ?_
    refine wpIn_ret ?_
    refine ⟨(.obj B (.deferred (some [])) :: .blk g3 #[vI er] 36 :: .blk g2 #[.slice none 0 0] 35 :: (hbF 45 q ++ (fr))), HM.picksT (fs' := (.obj lp (.loop (rec .busy none)) :: .obj B (.deferred (some [])) :: .blk g3 #[vI er] 36 :: .blk g2 #[.slice none 0 0] 35 :: (hbF 45 q ++ (fr)))) 8 [0, 3, 6, 7] (by decide) (by decide) rfl, fun w5 HM => ?_⟩
    exact ⟨(.obj lp (.loop (rec .done (some .ret))) :: .obj B (.deferred (some [])) :: .blk g3 #[vI er] 36 :: .blk g2 #[.slice none 0 0] 35 :: hbF 45 q), HM, .inr ⟨(by omega), rfl, q, er, by omega, he, rfl⟩⟩
   have hd15 := bne_eq_false_iff_eq.1 hb15
   have he0 : er = 0 := by omega
   have hq0 := hq
   rw [he0] at hq0
   have hg := qdi (f := f) (by omega) hne hq0
   have hof := qgd hrl hq0
   have hm13 := hof.least
   have hml := hof.len
   rw [hg] at hk he
   dsimp only at hk he
   refine qf6 HF rfl ?_
   refine wpIn_skip ?_
   refine zl ?_
   refine fy HF HM 0 rfl rfl rfl (Yl.qh rfl rfl (by kernel_rfl) (fun _ h => h.cell (i := 5) rfl rfl)) fun a HF => ?_
   refine fp HF 1 1 [(18, vP g5 0)] fun a HF => ?_
   refine fy HF HM 2 rfl rfl rfl (v := .agg #[vB b.kind, vB b.cpu, vI b.lost, vI b.next, .slice A9 b.evs.length c9]) (Yl.zg rfl rfl si_bk rfl (fun _ h => h.sub (i := 1) rfl 0 rfl)) fun a HF => ?_
   refine fo HF 3 rfl rfl ?_
   refine qan HF HM (vs := [(0, .agg #[vB b.kind, vB b.cpu, vI b.lost, vI b.next, .slice A9 b.evs.length c9])]) (cs := #[vB b.kind, vB b.cpu, vI b.lost, vI b.next, .slice A9 b.evs.length c9]) rfl qbr (by decide) rfl (by kernel_rfl) rfl (by decide) ?_
   clear HF HM; intro a w20 g20 HF HM
   refine fo HF 4 rfl rfl ?_
   refine zh HF HM (i := 5) rfl qbr rfl rfl rfl (news := (hbL (⟨b, A9, c9⟩ : Hb))) (HM.rdBlk (i := 0) (n := 1) (size := 5) rfl rfl) (qa6 _ _ _) (by omega) (by omega) rfl (by decide) ?_
   clear HF HM; intro a w21 A21 c21 HF HM hc21
   refine fo HF 5 rfl rfl ?_
   refine qo HF HM (i := 6) (cs := #[.slice Ao q.length co]) rfl rfl rfl rfl (by kernel_rfl) rfl rfl (by simp) ?_
   clear HM; intro w9_5 HM
   refine qb rfl ?_
   have hnA21 : q.length + 1 = (q ++ [(⟨b, A9, c9⟩ : Hb)]).length := by rw [List.length_append]; rfl
   replace HM := HM.reRow (i := 5) (ys := (q ++ [(⟨b, A9, c9⟩ : Hb)]).flatMap hbL) rfl hnA21 (by rw [List.flatMap_append, List.flatMap_cons, List.flatMap_nil, List.append_nil])
   rw [hnA21] at hc21
   replace HF := HF.as (t := 21) (u := .slice A21 ((q ++ [(⟨b, A9, c9⟩ : Hb)]).length) c21) rfl (by rw [hnA21])
   replace HM := HM.reBlk (i := 6) (ds := #[.slice A21 (q ++ [(⟨b, A9, c9⟩ : Hb)]).length c21]) rfl (by rw [hnA21]; rfl)
   replace HM := Mem.toHb (a := [.blk g20 #[vB b.kind, vB b.cpu, vI b.lost, vI b.next, .slice A9 b.evs.length c9] 41, .obj lp (.loop (rec .busy none)), .blk g5 #[.int .u8 (b.kind : Int), .int .u8 (b.cpu : Int), .int .i64 b.lost, .int .i64 b.next, .slice A9 b.evs.length c9, .int .i64 (m : Int)] 102, .obj B (.deferred (some [])), .row (.slice A21 ((q ++ [(⟨b, A9, c9⟩ : Hb)]).length) c21) ((q ++ [(⟨b, A9, c9⟩ : Hb)]).length) ((q ++ [(⟨b, A9, c9⟩ : Hb)]).flatMap hbL) 41 5, .blk g4 #[.slice A21 ((q ++ [(⟨b, A9, c9⟩ : Hb)]).length) c21] 35, .blk g3 #[vI 0] 36, .blk g2 #[.slice none 0 0] 35]) (q := q) (b := fr) (HM.picksT (fs' := (.row (.slice A9 b.evs.length c9) b.evs.length (b.evs.flatMap evL) 45 11 :: .blk g20 #[vB b.kind, vB b.cpu, vI b.lost, vI b.next, .slice A9 b.evs.length c9] 41 :: .obj lp (.loop (rec .busy none)) :: .blk g5 #[.int .u8 (b.kind : Int), .int .u8 (b.cpu : Int), .int .i64 b.lost, .int .i64 b.next, .slice A9 b.evs.length c9, .int .i64 (m : Int)] 102 :: .obj B (.deferred (some [])) :: .row (.slice A21 ((q ++ [(⟨b, A9, c9⟩ : Hb)]).length) c21) ((q ++ [(⟨b, A9, c9⟩ : Hb)]).length) ((q ++ [(⟨b, A9, c9⟩ : Hb)]).flatMap hbL) 41 5 :: .blk g4 #[.slice A21 ((q ++ [(⟨b, A9, c9⟩ : Hb)]).length) c21] 35 :: .blk g3 #[vI 0] 36 :: .blk g2 #[.slice none 0 0] 35 :: (hbF 45 q ++ (fr)))) 9 [3, 0, 1, 2, 4, 5, 6, 7, 8] (by decide) (by decide) rfl)
   replace HM : Mem w _ (.blk g20 #[vB b.kind, vB b.cpu, vI b.lost, vI b.next, .slice A9 b.evs.length c9] 41 :: .obj lp (.loop (rec .busy none)) :: .blk g5 #[.int .u8 (b.kind : Int), .int .u8 (b.cpu : Int), .int .i64 b.lost, .int .i64 b.next, .slice A9 b.evs.length c9, .int .i64 (m : Int)] 102 :: .obj B (.deferred (some [])) :: .row (.slice A21 ((q ++ [(⟨b, A9, c9⟩ : Hb)]).length) c21) ((q ++ [(⟨b, A9, c9⟩ : Hb)]).length) ((q ++ [(⟨b, A9, c9⟩ : Hb)]).flatMap hbL) 41 5 :: .blk g4 #[.slice A21 ((q ++ [(⟨b, A9, c9⟩ : Hb)]).length) c21] 35 :: .blk g3 #[vI 0] 36 :: .blk g2 #[.slice none 0 0] 35 :: (hbF 45 (q ++ [(⟨b, A9, c9⟩ : Hb)]) ++ (fr))) := HM
   refine ⟨(.obj B (.deferred (some [])) :: .row (.slice A21 ((q ++ [(⟨b, A9, c9⟩ : Hb)]).length) c21) ((q ++ [(⟨b, A9, c9⟩ : Hb)]).length) ((q ++ [(⟨b, A9, c9⟩ : Hb)]).flatMap hbL) 41 5 :: .blk g4 #[.slice A21 ((q ++ [(⟨b, A9, c9⟩ : Hb)]).length) c21] 35 :: .blk g3 #[vI 0] 36 :: .blk g2 #[.slice none 0 0] 35 :: (hbF 45 (q ++ [(⟨b, A9, c9⟩ : Hb)]) ++ (fr))), HM.picksT (fs' := (.obj lp (.loop (rec .busy none)) :: .obj B (.deferred (some [])) :: .row (.slice A21 ((q ++ [(⟨b, A9, c9⟩ : Hb)]).length) c21) ((q ++ [(⟨b, A9, c9⟩ : Hb)]).length) ((q ++ [(⟨b, A9, c9⟩ : Hb)]).flatMap hbL) 41 5 :: .blk g4 #[.slice A21 ((q ++ [(⟨b, A9, c9⟩ : Hb)]).length) c21] 35 :: .blk g3 #[vI 0] 36 :: .blk g2 #[.slice none 0 0] 35 :: (hbF 45 (q ++ [(⟨b, A9, c9⟩ : Hb)]) ++ (fr)))) 8 [1, 3, 4, 5, 6, 7] (by decide) (by decide) rfl, fun w5 HM => ?_⟩
   exact ⟨(.obj lp (.loop (rec .ready none)) :: .obj B (.deferred (some [])) :: .row (.slice A21 ((q ++ [(⟨b, A9, c9⟩ : Hb)]).length) c21) ((q ++ [(⟨b, A9, c9⟩ : Hb)]).length) ((q ++ [(⟨b, A9, c9⟩ : Hb)]).flatMap hbL) 41 5 :: .blk g4 #[.slice A21 ((q ++ [(⟨b, A9, c9⟩ : Hb)]).length) c21] 35 :: .blk g3 #[vI 0] 36 :: .blk g2 #[.slice none 0 0] 35 :: hbF 45 (q ++ [(⟨b, A9, c9⟩ : Hb)])), HM, .inl ⟨(by omega), rfl, (q ++ [(⟨b, A9, c9⟩ : Hb)]), (f - 1), A21, c21, by rw [List.length_drop]; omega, by rw [← hk, List.map_append, List.append_assoc]; rfl, he, hc21, by rw [List.length_append, List.length_drop, List.length_singleton]; omega, rfl⟩⟩
  refine (qih w w1 gp lp BB A c l _ _ _ hL hB hr hc hl (by omega) hy ⟨[], l.length, none, 0, Nat.le_refl _, List.nil_append _, rfl, Nat.le_refl _, by simp, rfl⟩ (HM.picksT 7 [3, 0, 1, 2, 4, 5, 6] (by decide) (by decide) rfl)).mono ?_
  rintro r w2 ⟨v, rfl, F2, HM2, (⟨q, f, Ao, co, hf, hk, he, hco, hql, rfl⟩ | ⟨q, e, hen, he, rfl⟩)⟩
  ·exact ⟨v, rfl, .inl ⟨_, ⟨q, f, Ao, co, hf, hk, he, hco, hql, rfl⟩, HM2⟩⟩
  ·exact ⟨v, rfl, .inr ⟨.ret, _, ⟨rfl, q, e, hen, he, rfl⟩, HM2⟩⟩
 ·
  clear HF HM; rintro B a w6 _ ⟨q, f, Ao, co, hf, hk, he, hco, hql, rfl⟩ HF HM
  have hz := qed (f := f) (l := []) rfl
  rw [hz] at hk he
  dsimp only at hk he
  rw [List.append_nil] at hk
  refine wp_seq (qa ?_)
  refine fy HF HM 0 rfl rfl rfl (Yl.qh rfl rfl (by kernel_rfl) (fun _ h => h.cell (i := 2) rfl rfl)) fun a HF => ?_
  refine fo HF 1 rfl rfl ?_
  refine qo HF HM (i := 4) (cs := #[.slice none 0 0]) rfl rfl rfl rfl (by kernel_rfl) rfl rfl (by simp) ?_
  clear HM; intro w10_1 HM
  refine fo HF 2 rfl rfl ?_
  refine qo HF HM (i := 3) (cs := #[vI 0]) rfl rfl rfl rfl (by kernel_rfl) rfl rfl (by simp) ?_
  clear HM; intro w10_2 HM
  refine qb rfl (wp_ret ?_)
  refine qi7 HF HM (i := 0) rfl fun a w7 HF HM => ?_
  exact ret2 rfl HF (.cell1 (i := 4) HF HM rfl rfl (by kernel_rfl) rfl) (.cell1 (i := 3) HF HM rfl rfl (by kernel_rfl) rfl) (by rw [qob (by omega) he, ← hk]; exact qql (HM.picksT (fs' := (.row (.slice Ao q.length co) q.length (q.flatMap hbL) 41 5 :: hbF 45 q)) 5 [1] (by decide) (by decide) rfl) hco)
 ·
  clear HF HM; rintro _ B a w6 _ ⟨rfl, q, e, hen, he, rfl⟩ HF HM
  refine wp_ret ?_
  refine qi7 HF HM (i := 0) rfl fun a w7 HF HM => ?_
  exact ret2 rfl HF (.cell1 (i := 2) HF HM rfl rfl (by kernel_rfl) rfl) (.cell1 (i := 1) HF HM rfl rfl (by kernel_rfl) rfl) (qkn HM (ql4 (by omega) he hen) rfl)
theorem qmb (A : Option Addr) (c : Nat) (q : List Hb) (B : Nat) (w : World) (hL : LaidX B w) (hB : B ≤ w.heap.size) (hr : Rd w w.heap.size 5 A q.length (q.flatMap hbL)) (hQ : HbRd w q) (hok : ∀ h ∈ q, h.b.Ok) (hev : ∀ h ∈ q, h.b.evs.length ≤ 1000000) (hn : q.length ≤ 1000000) :
    Calls Tryd.prog 20 #[.slice A q.length c] w (qas w (zr (q.map Hb.b)).2 (zr (q.map Hb.b)).1) := by
 refine qg (vs := [.slice A q.length c]) Tryd.func20 rfl rfl (by kernel_rfl) (σ0 := [(0, .slice A q.length c)]) rfl ?_
 intro a HF
 have HM := Mem.start w
 refine wp_seq (qa ?_)
 refine fp HF 2 0 [(3, vI 0), (2, .slice none 0 0)] fun a HF => ?_
 refine qb rfl (wp_seq (qa ?_))
 refine fp HF 1 0 [(4, .slice none 0 0)] fun a HF => ?_
 refine qb rfl (wp_seq (qa ?_))
 refine fp HF 1 0 [(5, .bool false)] fun a HF => ?_
 refine qb rfl ?_
 replace HM := HM.nil 5 1
 refine wp_seq (wp_seq (qa ?_))
 refine fp HF 1 0 [(10, .slice A q.length c)] fun a HF => ?_
 refine fy HF HM 1 rfl rfl rfl (Yl.len rfl rfl (by kernel_rfl)) fun a HF => ?_
 refine fp HF 1 2 [(12, vI 0)] fun a HF => ?_
 refine qb rfl (wp_block ?_)
 refine zq (fun mS aS wS => ∃ (k : Nat) (lg : Bool) (R : List Nat) (Ao : Option Addr) (co : Nat), (k ≤ q.length) ∧ (errL (q.map Hb.b) = errL ((q.drop k).map Hb.b)) ∧ (lg = decide (524288 < (outsL ((q.take k).map Hb.b)).length)) ∧ (lg = false → R = outsL ((q.take k).map Hb.b)) ∧ (R.length ≤ 524288) ∧ (R.length ≤ co) ∧ mS = q.length - k ∧ Fr aS 41 [] [(12, vI k), (11, vI q.length), (10, .slice A q.length c), (5, .bool lg), (4, .slice Ao R.length co), (3, vI 0), (2, .slice none 0 0)] ∧ Mem w wS [.row (.slice Ao R.length co) R.length (R.map B8) 5 1]) (m := q.length - 0) ⟨0, false, [], none, 0, Nat.zero_le _, by rw [List.drop_zero], rfl, by intro _; rfl, by simp, Nat.le_refl _, rfl, HF.sub (by kernel_rfl), HM.picks [0] (by decide) rfl⟩ ?_
 clear HF HM; rintro mS a w_ ⟨k, lg, R, Ao, co, hk, her, hlg, hR, hRl, hco, rfl, HF, HM⟩
 refine wp_seq (qa ?_)
 refine fp HF 1 0 [(13, .bool (decide ((k : Int) < (q.length : Int))))] fun a HF => ?_
 refine qb rfl (wp_seq ?_)
 rcases HF.tf 13 rfl with ⟨hb13, HF⟩ | ⟨hb13, HF⟩
 ·
  have hd13 := of_decide_eq_true hb13
  have hk13 : k < q.length := by omega
  have hat := qwv hk13
  have hoq := congrArg List.length (qui hk13)
  rw [List.length_append] at hoq
  have hol := qqi (q.getD k Hb.zero).b
  have htk := qre (q := q) k
  refine qf HF rfl (wp_skip (wp_seq (wp_block (wp_seq (qa ?_)))))
  obtain ⟨gA, oA, rfl, _⟩ := hr.qaj (Nat.lt_of_le_of_lt (Nat.zero_le _) (show k < q.length from by omega)) (by decide)
  refine fy HF HM 0 rfl rfl rfl (v := vP gA (oA + k * 5)) (Yl.ix gA oA k 5 rfl rfl rfl) fun a HF => ?_
  refine fy HF HM 1 rfl rfl rfl (v := .agg ((q.getD k Hb.zero).b.cells (q.getD k Hb.zero).A (q.getD k Hb.zero).c)) (Yl.zg rfl rfl si_bk rfl (fun _ h => (h.old hr).qbv qde ((getD_at Hb.zero (k := k) (by first | omega | (simp; omega)))))) fun a HF => ?_
  refine fo HF 2 rfl rfl ?_
  refine qr HF HM (cs := #[vB 0, vB 0, vI 0, vI 0, .slice none 0 0]) rfl (by kernel_rfl) rfl (by decide) ?_
  clear HF HM; intro a w7 g7 HF HM
  refine fo HF 3 rfl rfl ?_
  refine e_sa HF HM 0 rfl rfl rfl rfl rfl si_bk rfl rfl (qa6 _ _ _) ?_
  clear HM; intro w5_3 HM
  refine qb rfl (wp_seq (qa ?_))
  refine fy HF HM 0 rfl rfl rfl (v := .agg ((q.getD k Hb.zero).b.cells (q.getD k Hb.zero).A (q.getD k Hb.zero).c)) (Yl.zg rfl rfl si_bk rfl (fun _ h => qd (h.blk (i := 0) rfl))) fun a HF => ?_
  refine fo HF 1 rfl rfl ?_
  refine e_cl HF [.agg ((q.getD k Hb.zero).b.cells (q.getD k Hb.zero).A (q.getD k Hb.zero).c)] rfl rfl (qqt (q.getD k Hb.zero).b (hok _ (qa3 Hb.zero hk13)) ((q.getD k Hb.zero).A) (q.getD k Hb.zero).c B _ (hL.mem HM hB) (HM.le hB) (HM.old (hQ.at hk13)) (hev _ (qa3 Hb.zero hk13)) rfl rfl) ?_
  rintro _ w18 ⟨⟨A18, c18, rfl, ho, hc18⟩, hbw⟩
  refine ⟨_, rfl, ?_⟩
  replace HM := HM.callRow hbw ho
  clear HF; intro a HF
  refine fp HF 5 2 [(9, vI ((q.getD k Hb.zero).b.err)), (8, .slice A18 ((q.getD k Hb.zero).b.out.length) c18)] fun a HF => ?_
  refine qb rfl (wp_seq (wp_seq (qa ?_)))
  refine fp HF 2 0 [(22, .bool (((q.getD k Hb.zero).b.err : Int) != (0 : Int)))] fun a HF => ?_
  refine qb rfl ?_
  rcases HF.tf 22 rfl with ⟨hb22, HF⟩ | ⟨hb22, HF⟩
  ·
   have hd22 := bne_iff_ne.1 hb22
   have hE : errL (q.map Hb.b) = (q.getD k Hb.zero).b.err := by rw [her, hat, if_neg (by omega)]
   refine qf HF rfl (wp_seq (qa ?_))
   refine fp HF 3 0 [(3, vI ((q.getD k Hb.zero).b.err)), (2, .slice none 0 0)] fun a HF => ?_
   refine qb rfl (wp_ret ?_)
   exact ret2 rfl HF (.tmp HF rfl) (.tmp HF rfl) (qh9 HM.below (qn8 (by rw [hE]; omega)) (by rw [hE]))
  have hd22 := bne_eq_false_iff_eq.1 hb22
  have hE : errL (q.map Hb.b) = errL ((q.drop (k + 1)).map Hb.b) := by rw [her, hat, if_pos (by omega)]
  refine qe HF rfl (wp_skip (wp_seq (qa ?_)))
  refine fp HF 2 0 [(25, .bool lg)] fun a HF => ?_
  rcases HF.tf 25 rfl with ⟨hb25, HF⟩ | ⟨hb25, HF⟩
  ·
   have hlong : 524288 < (outsL ((q.take k).map Hb.b)).length := of_decide_eq_true (hlg.symm.trans hb25)
   refine fp HF 8 2 [(5, .bool true)] fun a HF => ?_
   refine qb rfl (wp_seq (qa ?_))
   refine fp HF 2 0 [(34, .bool false)] fun a HF => ?_
   refine qb rfl (qe HF rfl (wp_skip (qa ?_)))
   refine fp HF 1 0 [(38, vI (IntKind.i64.wrap ((k : Int) + 1)))] fun a HF => ?_
   replace HF := HF.sp 38 (vI (k + 1 : Nat)) rfl (ql (by omega) (by omega))
   refine fp HF 1 1 [(12, vI (k + 1 : Nat))] fun a HF => ?_
   refine qb rfl ?_
   exact ⟨_, (by omega), k + 1, true, R, Ao, co, by omega, hE, (decide_eq_true (by omega)).symm, (by intro h; cases h), hRl, hco, rfl, HF.sub (by kernel_rfl), HM.picks [2] (by decide) rfl⟩
  have hlong : ¬ 524288 < (outsL ((q.take k).map Hb.b)).length := of_decide_eq_false (hlg.symm.trans hb25)
  have hRe := hR hb25
  have hRl2 : R.length = (outsL ((q.take k).map Hb.b)).length := by rw [hRe]
  refine fp HF 1 2 [(26, .slice Ao R.length co)] fun a HF => ?_
  refine fy HF HM 3 rfl rfl rfl (Yl.len rfl rfl (by kernel_rfl)) fun a HF => ?_
  refine fp HF 1 4 [(28, .slice A18 ((q.getD k Hb.zero).b.out.length) c18)] fun a HF => ?_
  refine fy HF HM 5 rfl rfl rfl (Yl.len rfl rfl (by kernel_rfl)) fun a HF => ?_
  refine fp HF 1 6 [(30, vI (IntKind.i64.wrap ((R.length : Int) + (((q.getD k Hb.zero).b.out.length : Nat) : Int))))] fun a HF => ?_
  replace HF := HF.sp 30 (vI (R.length + ((q.getD k Hb.zero).b.out.length) : Nat)) rfl (ql (by omega) (by omega))
  refine fp HF 3 7 [(5, .bool (decide (((R.length + ((q.getD k Hb.zero).b.out.length) : Nat) : Int) > (524288 : Int))))] fun a HF => ?_
  refine qb rfl (wp_seq (qa ?_))
  refine fp HF 2 0 [(34, .bool (!(decide (((R.length + ((q.getD k Hb.zero).b.out.length) : Nat) : Int) > (524288 : Int)))))] fun a HF => ?_
  refine qb rfl ?_
  rcases HF.tf 34 rfl with ⟨hb34, HF⟩ | ⟨hb34, HF⟩
  ·
   have hd34 := of_decide_eq_false ((Bool.not_eq_true' _).mp hb34)
   replace HF := HF.on 5 ((Bool.not_eq_true' _).mp hb34)
   refine qf HF rfl (qa ?_)
   refine fp HF 2 0 [(36, .slice A18 ((q.getD k Hb.zero).b.out.length) c18), (35, .slice Ao R.length co)] fun a HF => ?_
   refine fo HF 2 rfl rfl ?_
   refine zh HF HM (i := 2) rfl ei_u8 rfl rfl rfl (news := ((q.getD k Hb.zero).b.out.map B8)) (HM.rd (i := 0) rfl) (qd1 _) (by omega) (by omega) rfl (by decide) ?_
   clear HF HM; intro a w37 A37 c37 HF HM hc37
   rw [show (R.map B8) ++ ((q.getD k Hb.zero).b.out.map B8) = (R ++ (q.getD k Hb.zero).b.out).map B8 from by rw [List.map_append]] at HM
   refine fp HF 1 3 [(4, .slice A37 (R.length + ((q.getD k Hb.zero).b.out.length)) c37)] fun a HF => ?_
   refine qb rfl ?_
   have hnA37 : R.length + ((q.getD k Hb.zero).b.out.length) = (R ++ (q.getD k Hb.zero).b.out).length := by rw [List.length_append]
   replace HM := HM.reRow (i := 2) (ys := (R ++ (q.getD k Hb.zero).b.out).map B8) rfl hnA37 (rfl)
   rw [hnA37] at hc37
   replace HF := HF.as (t := 4) (u := .slice A37 ((R ++ (q.getD k Hb.zero).b.out).length) c37) rfl (by rw [hnA37])
   replace HF := HF.as (t := 37) (u := .slice A37 ((R ++ (q.getD k Hb.zero).b.out).length) c37) rfl (by rw [hnA37])
   refine qa ?_
   refine fp HF 1 0 [(38, vI (IntKind.i64.wrap ((k : Int) + 1)))] fun a HF => ?_
   replace HF := HF.sp 38 (vI (k + 1 : Nat)) rfl (ql (by omega) (by omega))
   refine fp HF 1 1 [(12, vI (k + 1 : Nat))] fun a HF => ?_
   refine qb rfl ?_
   exact ⟨_, (by omega), k + 1, false, (R ++ (q.getD k Hb.zero).b.out), A37, c37, by omega, hE, (decide_eq_false (by omega)).symm, (by intro _; rw [hRe, qui hk13]), (by rw [List.length_append]; omega), hc37, rfl, HF.sub (by kernel_rfl), HM.picks [2] (by decide) rfl⟩
  have hd34 := of_decide_eq_true ((Bool.not_eq_false' _).mp hb34)
  replace HF := HF.on 5 ((Bool.not_eq_false' _).mp hb34)
  refine qe HF rfl (wp_skip (qa ?_))
  refine fp HF 1 0 [(38, vI (IntKind.i64.wrap ((k : Int) + 1)))] fun a HF => ?_
  replace HF := HF.sp 38 (vI (k + 1 : Nat)) rfl (ql (by omega) (by omega))
  refine fp HF 1 1 [(12, vI (k + 1 : Nat))] fun a HF => ?_
  refine qb rfl ?_
  exact ⟨_, (by omega), k + 1, true, R, Ao, co, by omega, hE, (decide_eq_true (by omega)).symm, (by intro h; cases h), hRl, hco, rfl, HF.sub (by kernel_rfl), HM.picks [2] (by decide) rfl⟩
 have hd13 := of_decide_eq_false hb13
 have hkn : k = q.length := by omega
 have hdn : errL (q.map Hb.b) = 0 := by rw [her, List.drop_of_length_le (by omega)]; rfl
 have htn : q.take k = q := List.take_of_length_le (by omega)
 rw [htn] at hlg hR
 refine qe HF rfl (wp_exit (wp_seq (wp_seq (qa ?_))))
 refine fp HF 1 0 [(39, .bool lg)] fun a HF => ?_
 refine qb rfl ?_
 rcases HF.tf 39 rfl with ⟨hb39, HF⟩ | ⟨hb39, HF⟩
 ·
  have hlong : 524288 < (outsL (q.map Hb.b)).length := of_decide_eq_true (hlg.symm.trans hb39)
  refine qf HF rfl (wp_seq (qa ?_))
  refine fp HF 2 0 [(3, vI 3), (2, .slice none 0 0)] fun a HF => ?_
  refine qb rfl (wp_ret ?_)
  exact ret2 rfl HF (.tmp HF rfl) (.tmp HF rfl) (qh9 HM.below (ql2 hdn hlong) rfl)
 have hlong : ¬ 524288 < (outsL (q.map Hb.b)).length := of_decide_eq_false (hlg.symm.trans hb39)
 have hRe := hR hb39
 refine qe HF rfl (wp_skip (wp_seq (qa ?_)))
 refine fp HF 3 0 [(3, vI 0), (2, .slice Ao R.length co)] fun a HF => ?_
 refine qb rfl (wp_ret ?_)
 exact ret2 rfl HF (.tmp HF rfl) (.tmp HF rfl) (by rw [qkl hdn hlong, ← hRe]; exact ⟨⟨Ao, co, rfl, HM.own (i := 0) rfl, hco⟩, HM.below⟩)
theorem qol (g : Nat) (lim : Int) (A : Option Addr) (n c : Nat) (w : World) (hg : w.heap[g]? = some (.cells #[.int .i64 lim, .slice A n c] 95 (0, 0))) :
    Calls Tryd.prog 39 #[.pointer (some ⟨g, 0, none⟩)] w (Is w (.bool (lim == 0))) := by
 refine qg (vs := [vP g 0]) Tryd.func39 rfl rfl (by kernel_rfl) (σ0 := [(0, vP g 0)]) rfl ?_
 intro a HF
 have HM := Mem.start w
 refine wp_seq (qa ?_)
 refine fp HF 1 0 [(2, .bool false)] fun a HF => ?_
 refine qb rfl (wp_seq (qa ?_))
 refine fp HF 1 0 [(3, vP g 0)] fun a HF => ?_
 refine fy HF HM 1 rfl rfl rfl (v := .bool false) (Yl.qne rfl rfl rfl) fun a HF => ?_
 refine fp HF 2 2 [(6, vP g 0), (5, .bool false)] fun a HF => ?_
 refine fy HF HM 4 rfl rfl rfl (v := vP g 0) (Yl.nilCheck rfl rfl) fun a HF => ?_
 refine fp HF 1 5 [(8, vP g 0)] fun a HF => ?_
 refine fy HF HM 6 rfl rfl rfl (v := vI lim) (Yl.qh rfl rfl (by kernel_rfl) (fun _ h => h.zf hg rfl)) fun a HF => ?_
 refine fp HF 3 7 [(2, .bool ((lim : Int) == (0 : Int)))] fun a HF => ?_
 refine qb rfl (wp_ret ?_)
 exact ret1 rfl HF (.tmp HF rfl) (⟨rfl, HM.below⟩)
theorem qha (g : Nat) (lim : Int) (A : Option Addr) (n c : Nat) (w : World) (hg : w.heap[g]? = some (.cells #[.int .i64 lim, .slice A n c] 95 (0, 0))) (hlim : lim ≠ 0) :
  Calls Tryd.prog 39 #[.pointer (some ⟨g, 0, none⟩)] w (Is w (.bool false)) := by
 have h := qol g lim A n c w hg
 rwa [beq_false_of_ne hlim] at h
theorem qk1 (A : Option Addr) (c : Nat) (l : List Nat) (w : World) (hr : Rd w w.heap.size 1 A l.length (l.map B8)) (hn : l.length ≤ 100000000) :
    Calls Tryd.prog 41 #[.slice A l.length c] w (qae w l) := by
 refine qg (vs := [.slice A l.length c]) Tryd.func41 rfl rfl (by kernel_rfl) (σ0 := [(0, .slice A l.length c)]) rfl ?_
 intro a HF
 have HM := Mem.start w
 refine wp_seq (qa ?_)
 refine fp HF 1 0 [(2, .slice none 0 0)] fun a HF => ?_
 refine qb rfl (wp_seq (wp_seq (qa ?_)))
 refine fp HF 1 0 [(3, .slice A l.length c)] fun a HF => ?_
 refine fy HF HM 1 rfl rfl rfl (v := .bool A.isNone) (Yl.qxh rfl rfl rfl) fun a HF => ?_
 refine qb rfl ?_
 rcases HF.tf 4 rfl with ⟨hb4, HF⟩ | ⟨hb4, HF⟩
 ·
  obtain rfl : A = none := by cases A with | none => rfl | some a => cases hb4
  obtain rfl : l = [] := hr.qv0
  refine qf HF rfl (wp_seq (qa ?_))
  refine fp HF 1 0 [(2, .slice none 0 0)] fun a HF => ?_
  refine qb rfl (wp_ret ?_)
  exact ret1 rfl HF (.tmp HF rfl) (⟨⟨none, 0, rfl, World.ownsRow_nil _ _ _ _, Nat.le_refl _⟩, HM.below⟩)
 refine qe HF rfl (wp_skip (wp_seq (qa ?_)))
 refine fo HF 0 rfl rfl ?_
 refine qf9 HF HM rfl ei_u8 rfl (by decide) ?_
 clear HF HM; intro a w5 g5 HF HM
 refine fp HF 1 1 [(6, .slice A l.length c)] fun a HF => ?_
 refine fo HF 2 rfl rfl ?_
 refine zh HF HM (i := 0) rfl ei_u8 rfl rfl rfl (news := (l.map B8)) (HM.old hr) (qd1 _) (by omega) (by omega) rfl (by decide) ?_
 clear HF HM; intro a w7 A7 c7 HF HM hc7
 refine fp HF 1 3 [(2, .slice A7 (0 + l.length) c7)] fun a HF => ?_
 refine qb rfl (wp_ret ?_)
 exact ret1 rfl HF (.tmp HF rfl) (⟨⟨A7, c7, by rw [Nat.zero_add], by have h := HM.own (i := 0) rfl; rwa [Nat.zero_add, List.nil_append] at h, by omega⟩, HM.below⟩)
def NewIs (w : World) (lim : Int) (r : Ending) (w' : World) : Prop := ((lim < 1 ∨ 4096 < lim) ∧ Is w (.tuple #[.pointer none, .int .i64 2]) r w') ∨ (¬ (lim < 1 ∨ 4096 < lim) ∧ ∃ g, r = .returned (.tuple #[.pointer (some ⟨g, 0, none⟩), .int .i64 0]) ∧ Mem w w' [.blk g #[.int .i64 lim, .slice none 0 0] 95])
theorem qna {w w' : World} {lim : Int} (h : lim < 1 ∨ 4096 < lim) (hb : Below w.heap.size w w') : NewIs w lim (.returned (.tuple #[.pointer none, .int .i64 2])) w' := .inl ⟨h, rfl, hb⟩
theorem qtr {w w' : World} {lim : Int} {g : Nat} (h : ¬ (lim < 1 ∨ 4096 < lim)) (hm : Mem w w' [.blk g #[.int .i64 lim, .slice none 0 0] 95]) : NewIs w lim (.returned (.tuple #[.pointer (some ⟨g, 0, none⟩), .int .i64 0])) w' := .inr ⟨h, g, rfl, hm⟩
theorem qru (lim : Int) (hl : I64 lim) (w : World) :
    Calls Tryd.prog 14 #[.int .i64 lim] w (NewIs w lim) := by
 refine qg (vs := [vI lim]) Tryd.func14 rfl rfl (by kernel_rfl) (σ0 := [(0, vI lim)]) rfl ?_
 intro a HF
 have HM := Mem.start w
 refine wp_seq (qa ?_)
 refine fp HF 2 0 [(3, vI 0), (2, .pointer none)] fun a HF => ?_
 refine qb rfl (wp_seq (wp_seq (qa ?_)))
 refine fp HF 3 0 [(6, .bool (decide ((lim : Int) < (1 : Int))))] fun a HF => ?_
 rcases HF.tf 6 rfl with ⟨hb6, HF⟩ | ⟨hb6, HF⟩
 ·
  have hd6 := of_decide_eq_true hb6
  refine fp HF 3 3 [(9, .bool true)] fun a HF => ?_
  refine qb rfl (qf HF rfl (wp_seq (qa ?_)))
  refine fp HF 2 0 [(3, vI 2), (2, .pointer none)] fun a HF => ?_
  refine qb rfl (wp_ret ?_)
  exact ret2 rfl HF (.tmp HF rfl) (.tmp HF rfl) (qna (by omega) HM.below)
 have hd6 := of_decide_eq_false hb6
 refine fp HF 3 3 [(9, .bool (decide ((lim : Int) > (4096 : Int))))] fun a HF => ?_
 refine qb rfl ?_
 rcases HF.tf 9 rfl with ⟨hb9, HF⟩ | ⟨hb9, HF⟩
 ·
  have hd9 := of_decide_eq_true hb9
  refine qf HF rfl (wp_seq (qa ?_))
  refine fp HF 2 0 [(3, vI 2), (2, .pointer none)] fun a HF => ?_
  refine qb rfl (wp_ret ?_)
  exact ret2 rfl HF (.tmp HF rfl) (.tmp HF rfl) (qna (by omega) HM.below)
 have hd9 := of_decide_eq_false hb9
 refine qe HF rfl (wp_skip (wp_seq (qa ?_)))
 refine fp HF 1 0 [(10, vI lim)] fun a HF => ?_
 refine fy HF HM 1 rfl rfl rfl (v := .agg #[vI lim, .slice none 0 0]) (Yl.build (vs := [(0, vI lim)]) rfl (by kernel_rfl) (by kernel_rfl)) fun a HF => ?_
 refine fo HF 2 rfl rfl ?_
 refine e_box HF HM (cs := #[vI lim, .slice none 0 0]) rfl rfl rfl rfl (by decide) ?_
 clear HF HM; intro a w12 g12 HF HM
 refine fp HF 2 3 [(3, vI 0), (2, vP g12 0)] fun a HF => ?_
 refine qb rfl (wp_ret ?_)
 exact ret2 rfl HF (.tmp HF rfl) (.tmp HF rfl) (qtr (by omega) (HM.picks [0] (by decide) rfl))
theorem qdx (A : Option Addr) (c : Nat) (q : List Hb) (B : Nat) (w : World) (hL : LaidX B w) (hB : B ≤ w.heap.size) (hr : Rd w w.heap.size 5 A q.length (q.flatMap hbL)) (hQ : HbRd w q) (hok : ∀ h ∈ q, h.b.Ok) (hev : ∀ h ∈ q, h.b.evs.length ≤ 1000000) (hn : q.length ≤ 1000000) {R : List Nat} {er : Nat} (h : zr (q.map Hb.b) = (R, er)) :
  Calls Tryd.prog 20 #[.slice A q.length c] w (qas w er R) := by
 have h1 := qmb A c q B w hL hB hr hQ hok hev hn
 rw [h] at h1
 exact h1
theorem qk2 (W w : World) (g : Nat) (lim : Int) (A : Option Addr) (c : Nat) (out : List Nat) (fs : List Fact) (HW : Mem W w (.blk g #[.int .i64 lim, .slice A out.length c] 95 :: .row (.slice A out.length c) out.length (out.map B8) 5 1 :: fs)) (hc : out.length ≤ c) (hout : out.length ≤ 524288) (A2 : Option Addr) (c2 : Nat) (q : List Hb) (B : Nat) (hL : LaidX B w) (hBW : B ≤ W.heap.size) (hr : Rd w w.heap.size 5 A2 q.length (q.flatMap hbL)) (hQ : HbRd w q) (hok : ∀ h ∈ q, h.b.Ok) (hev : ∀ h ∈ q, h.b.evs.length ≤ 1000000) (hn : q.length ≤ 1000000) :
    Calls Tryd.prog 40 #[.pointer (some ⟨g, 0, none⟩), .slice A2 q.length c2] w (WrIs W 95 g lim (qa7 out (q.map Hb.b)).1 fs (.int .i64 ((qa7 out (q.map Hb.b)).2 : Int))) := by
 have hg := HW.blk (i := 0) rfl
 have hB := Nat.le_trans hBW HW.size
 have hrA := HW.rd (i := 1) rfl
 refine qg (vs := [vP g 0, .slice A2 q.length c2]) Tryd.func40 rfl rfl (by kernel_rfl) (σ0 := [(0, vP g 0), (1, .slice A2 q.length c2)]) rfl ?_
 intro a HF
 have HM := Mem.start w
 refine wp_seq (qa ?_)
 refine fp HF 1 0 [(4, vI 0)] fun a HF => ?_
 refine qb rfl ?_
 obtain ⟨R, er, hws⟩ : ∃ R er, zr (q.map Hb.b) = (R, er) := ⟨_, _, rfl⟩
 have hRl : R.length ≤ 524288 := by have h := qn9 (q.map Hb.b); rw [hws] at h; exact h
 refine wp_seq (qa ?_)
 refine fp HF 1 0 [(8, .slice A2 q.length c2)] fun a HF => ?_
 refine fo HF 1 rfl rfl ?_
 refine e_cl HF [.slice A2 q.length c2] rfl rfl (qdx A2 c2 q B _ (hL.mem HM hB) (HM.le hB) (HM.old hr) (HbRd.old hQ HM) hok hev hn hws) ?_
 rintro _ w9 ⟨⟨A9, c9, rfl, ho, hc9⟩, hbw⟩
 refine ⟨_, rfl, ?_⟩
 replace HM := HM.callRow hbw ho
 clear HF; intro a HF
 refine fp HF 5 2 [(6, vI er), (5, .slice A9 R.length c9)] fun a HF => ?_
 refine qb rfl (wp_seq (wp_seq (qa ?_)))
 refine fp HF 2 0 [(13, .bool ((er : Int) != (0 : Int)))] fun a HF => ?_
 refine qb rfl ?_
 rcases HF.tf 13 rfl with ⟨hb13, HF⟩ | ⟨hb13, HF⟩
 ·
  have hd13 := bne_iff_ne.1 hb13
  refine qf HF rfl (wp_seq (qa ?_))
  refine fp HF 2 0 [(4, vI er)] fun a HF => ?_
  refine qb rfl (wp_ret ?_)
  exact ret1 rfl HF (.tmp HF rfl) (qi8 (ql5 hws (by omega)) rfl hc (HW.call HM.below))
 have hd13 := bne_eq_false_iff_eq.1 hb13
 refine qe HF rfl (wp_skip (wp_seq (wp_seq (qa ?_))))
 refine fp HF 1 0 [(15, vP g 0)] fun a HF => ?_
 refine fy HF HM 1 rfl rfl rfl (v := vP g 0) (Yl.nilCheck rfl rfl) fun a HF => ?_
 refine fp HF 1 2 [(17, vP g 1)] fun a HF => ?_
 refine fy HF HM 3 rfl rfl rfl (v := .slice A out.length c) (Yl.qh rfl rfl (by kernel_rfl) (fun _ h => h.zf hg rfl)) fun a HF => ?_
 refine fy HF HM 4 rfl rfl rfl (Yl.len rfl rfl (by kernel_rfl)) fun a HF => ?_
 refine fp HF 1 5 [(20, .slice A9 R.length c9)] fun a HF => ?_
 refine fy HF HM 6 rfl rfl rfl (Yl.len rfl rfl (by kernel_rfl)) fun a HF => ?_
 refine fp HF 1 7 [(22, vI (IntKind.i64.wrap ((out.length : Int) + (R.length : Int))))] fun a HF => ?_
 replace HF := HF.sp 22 (vI (out.length + R.length : Nat)) rfl (ql (by omega) (by omega))
 refine fp HF 1 8 [(23, .bool (decide (((out.length + R.length : Nat) : Int) > (524288 : Int))))] fun a HF => ?_
 refine qb rfl ?_
 rcases HF.tf 23 rfl with ⟨hb23, HF⟩ | ⟨hb23, HF⟩
 ·
  have hd23 := of_decide_eq_true hb23
  refine qf HF rfl (wp_seq (qa ?_))
  refine fp HF 1 0 [(4, vI 3)] fun a HF => ?_
  refine qb rfl (wp_ret ?_)
  exact ret1 rfl HF (.tmp HF rfl) (qi8 (qko hws (by omega) (by omega)) rfl hc (HW.call HM.below))
 have hd23 := of_decide_eq_false hb23
 replace HM : Mem W _ (.row (.slice A9 R.length c9) R.length (R.map B8) 5 1 :: .blk g #[vI lim, .slice A out.length c] 95 :: .row (.slice A out.length c) out.length (out.map B8) 5 1 :: fs) := HW.join HM
 refine qe HF rfl (wp_skip (wp_seq (qa ?_)))
 refine fp HF 2 0 [(25, vP g 0), (24, vP g 0)] fun a HF => ?_
 refine fy HF HM 2 rfl rfl rfl (v := vP g 0) (Yl.nilCheck rfl rfl) fun a HF => ?_
 refine fp HF 1 3 [(27, vP g 1)] fun a HF => ?_
 refine fy HF HM 4 rfl rfl rfl (Yl.qh rfl rfl (by kernel_rfl) (fun _ h => h.cell (i := 1) rfl rfl)) fun a HF => ?_
 refine fp HF 1 5 [(29, .slice A9 R.length c9)] fun a HF => ?_
 refine fo HF 6 rfl rfl ?_
 refine zh HF HM (i := 2) rfl ei_u8 rfl rfl rfl (news := (R.map B8)) (HM.rd (i := 0) rfl) (qd1 _) (by omega) (by omega) rfl (by decide) ?_
 clear HF HM; intro a w30 A30 c30 HF HM hc30
 rw [show (out.map B8) ++ (R.map B8) = (out ++ R).map B8 from by rw [List.map_append]] at HM
 refine fy HF HM 7 rfl rfl rfl (v := vP g 0) (Yl.nilCheck rfl rfl) fun a HF => ?_
 refine fp HF 1 8 [(32, vP g 1)] fun a HF => ?_
 refine fo HF 9 rfl rfl ?_
 refine qo HF HM (i := 1) (cs := #[vI lim, .slice A out.length c]) rfl rfl rfl rfl (by kernel_rfl) rfl rfl (by simp) ?_
 clear HM; intro w6_9 HM
 refine qb rfl ?_
 have hnA30 : out.length + R.length = (out ++ R).length := by rw [List.length_append]
 replace HM := HM.reRow (i := 2) (ys := (out ++ R).map B8) rfl hnA30 (rfl)
 rw [hnA30] at hc30
 replace HF := HF.as (t := 30) (u := .slice A30 ((out ++ R).length) c30) rfl (by rw [hnA30])
 replace HM := HM.reBlk (i := 1) (ds := #[.int .i64 lim, .slice A30 (out ++ R).length c30]) rfl (by rw [hnA30]; rfl)
 refine wp_seq (qa ?_)
 refine fp HF 1 0 [(4, vI 0)] fun a HF => ?_
 refine qb rfl (wp_ret ?_)
 exact ret1 rfl HF (.tmp HF rfl) (qi8 (qoc hws (by omega) (by omega)) rfl hc30 (HM.picksT 3 [1, 2] (by decide) (by decide) rfl))
theorem qmc (W w : World) (g : Nat) (lim : Int) (A : Option Addr) (c : Nat) (out : List Nat) (fs : List Fact) (HW : Mem W w (.blk g #[.int .i64 lim, .slice A out.length c] 95 :: .row (.slice A out.length c) out.length (out.map B8) 5 1 :: fs)) (hc : out.length ≤ c) (hout : out.length ≤ 524288) (A2 : Option Addr) (c2 : Nat) (q : List Hb) (B : Nat) (hL : LaidX B w) (hBW : B ≤ W.heap.size) (hr : Rd w w.heap.size 5 A2 q.length (q.flatMap hbL)) (hQ : HbRd w q) (hok : ∀ h ∈ q, h.b.Ok) (hev : ∀ h ∈ q, h.b.evs.length ≤ 1000000) (hn : q.length ≤ 1000000) {o2 : List Nat} {we : Nat} (h : qa7 out (q.map Hb.b) = (o2, we)) :
  Calls Tryd.prog 40 #[.pointer (some ⟨g, 0, none⟩), .slice A2 q.length c2] w (WrIs W 95 g lim o2 fs (.int .i64 (we : Int))) := by
 have h1 := qk2 W w g lim A c out fs HW hc hout A2 c2 q B hL hBW hr hQ hok hev hn
 rw [h] at h1
 exact h1
theorem qgf (cpu : Nat) (hcpu : cpu < 256) (A : Option Addr) (n c : Nat) (l : List It) (opn limit : Int) (hok : ∀ x ∈ l, x.Ok) (ho : I64 opn) (hlm : I64 limit) (B : Nat) (w : World) (hL : LaidX B w) (hB : B ≤ w.heap.size) (hr : Rd w w.heap.size 12 A n (l.flatMap itL)) (hc : n ≤ c) (hln : l.length = n) (hn : n ≤ 1000000) {bs : List Bk} {ce : Nat} (h : cutS cpu l opn limit = (bs, ce)) :
  Calls Tryd.prog 12 #[.int .u8 (cpu : Int), .slice A n c, .int .i64 opn, .int .i64 limit] w (qf4 45 41 w ce bs) := by
 have h1 := qrt cpu hcpu A n c l opn limit hok ho hlm B w hL hB hr hc hln hn
 rw [h] at h1
 exact h1
theorem qrv (W w : World) (g : Nat) (lim : Int) (A : Option Addr) (c : Nat) (out : List Nat) (fs : List Fact) (HW : Mem W w (.blk g #[.int .i64 lim, .slice A out.length c] 95 :: .row (.slice A out.length c) out.length (out.map B8) 5 1 :: fs)) (hc : out.length ≤ c) (hout : out.length ≤ 524288) (hlim : lim ≠ 0) (next : Int) (hnx : I64 next) (B : Nat) (hL : LaidX B w) (hBW : B ≤ W.heap.size) :
    Calls Tryd.prog 15 #[.pointer (some ⟨g, 0, none⟩), .int .i64 next] w (WrIs W 95 g lim (qa7 out [endB next]).1 fs (.int .i64 ((qa7 out [endB next]).2 : Int))) := by
 have hg := HW.blk (i := 0) rfl
 have hB := Nat.le_trans hBW HW.size
 have hrA := HW.rd (i := 1) rfl
 refine qg (vs := [vP g 0, vI next]) Tryd.func15 rfl rfl (by kernel_rfl) (σ0 := [(0, vP g 0), (1, vI next)]) rfl ?_
 intro a HF
 have HM := Mem.start w
 refine wp_seq (qa ?_)
 refine fp HF 1 0 [(4, vI 0)] fun a HF => ?_
 refine qb rfl (wp_seq (wp_seq (qa ?_)))
 refine fp HF 1 0 [(5, vP g 0)] fun a HF => ?_
 refine fo HF 1 rfl rfl ?_
 refine e_is HF HM [vP g 0] (.bool false) rfl rfl (qha g lim A out.length c _ (HM.oldBlk hg) hlim) fun w6 hbw HM a HF => ?_
 refine qb rfl ?_
 replace HM : Mem W _ (.blk g #[vI lim, .slice A out.length c] 95 :: .row (.slice A out.length c) out.length (out.map B8) 5 1 :: fs) := HW.join HM
 obtain ⟨o2, we, hww⟩ : ∃ o2 we, qa7 out [endB next] = (o2, we) := ⟨_, _, rfl⟩
 refine qe HF rfl (wp_skip (wp_seq (qa ?_)))
 refine fp HF 2 0 [(8, vI next), (7, vP g 0)] fun a HF => ?_
 refine fy HF HM 2 rfl rfl rfl (v := .agg #[vB 2, vB 0, vI 0, vI next, .slice none 0 0]) (Yl.build (vs := [(0, vB 2), (3, vI next)]) rfl (by kernel_rfl) (by kernel_rfl)) fun a HF => ?_
 refine fo HF 3 rfl rfl ?_
 refine qan HF HM (vs := [(0, .agg #[vB 2, vB 0, vI 0, vI next, .slice none 0 0])]) (cs := #[vB 2, vB 0, vI 0, vI next, .slice none 0 0]) rfl qbr (by decide) rfl (by kernel_rfl) rfl (by decide) ?_
 clear HF HM; intro a w10 g10 HF HM
 refine fo HF 4 rfl rfl ?_
 refine e_cl HF [vP g 0, vS g10 1 1] rfl rfl (qmc W _ g lim A c out _ (HM.picksT 3 [1, 2, 0] (by decide) (by decide) rfl) hc hout _ 1 [⟨endB next, none, 0⟩] B (hL.mem2 HW HM hBW) hBW (HM.rdBlk (i := 0) (n := 1) (size := 5) rfl rfl) (by intro x hx; rw [List.mem_singleton] at hx; subst hx; exact Rd.nil) (by intro x hx; rw [List.mem_singleton] at hx; subst hx; exact qvo hnx) (by intro x hx; rw [List.mem_singleton] at hx; subst hx; exact Nat.zero_le _) (by show 1 ≤ 1000000; decide) hww) ?_
 rintro _ w11 ⟨rfl, A11, c11, hc11, HM2⟩
 refine ⟨_, rfl, ?_⟩
 replace HM := HM2
 clear HF; intro a HF
 refine fp HF 1 5 [(4, vI we)] fun a HF => ?_
 refine qb rfl (wp_ret ?_)
 exact ret1 rfl HF (.tmp HF rfl) (qi8 hww rfl hc11 (HM.picksT 3 [0, 1] (by decide) (by decide) rfl))
theorem qhb (g : Nat) (lim : Int) (A : Option Addr) (c : Nat) (out : List Nat) (w : World) (hg : w.heap[g]? = some (.cells #[.int .i64 lim, .slice A out.length c] 95 (0, 0))) (hrA : Rd w w.heap.size 1 A out.length (out.map B8)) (hout : out.length ≤ 524288) (hlim : lim ≠ 0) :
    Calls Tryd.prog 16 #[.pointer (some ⟨g, 0, none⟩)] w (qae w out) := by
 refine qg (vs := [vP g 0]) Tryd.func16 rfl rfl (by kernel_rfl) (σ0 := [(0, vP g 0)]) rfl ?_
 intro a HF
 have HM := Mem.start w
 refine wp_seq (qa ?_)
 refine fp HF 1 0 [(2, .slice none 0 0)] fun a HF => ?_
 refine qb rfl (wp_seq (wp_seq (qa ?_)))
 refine fp HF 1 0 [(3, vP g 0)] fun a HF => ?_
 refine fo HF 1 rfl rfl ?_
 refine e_is HF HM [vP g 0] (.bool false) rfl rfl (qha g lim A out.length c _ (HM.oldBlk hg) hlim) fun w4 hbw HM a HF => ?_
 refine qb rfl (qe HF rfl (wp_skip (wp_seq (qa ?_))))
 refine fp HF 1 0 [(5, vP g 0)] fun a HF => ?_
 refine fy HF HM 1 rfl rfl rfl (v := vP g 0) (Yl.nilCheck rfl rfl) fun a HF => ?_
 refine fp HF 1 2 [(7, vP g 1)] fun a HF => ?_
 refine fy HF HM 3 rfl rfl rfl (v := .slice A out.length c) (Yl.qh rfl rfl (by kernel_rfl) (fun _ h => h.zf hg rfl)) fun a HF => ?_
 refine fo HF 4 rfl rfl ?_
 refine e_cl HF [.slice A out.length c] rfl rfl (qk1 A c out _ (HM.old hrA) (by omega)) ?_
 rintro _ w9 ⟨⟨A9, c9, rfl, ho, hc9⟩, hbw⟩
 refine ⟨_, rfl, ?_⟩
 replace HM := HM.callRow hbw ho
 clear HF; intro a HF
 refine fp HF 1 5 [(2, .slice A9 out.length c9)] fun a HF => ?_
 refine qb rfl (wp_ret ?_)
 exact ret1 rfl HF (.tmp HF rfl) (⟨⟨_, _, rfl, HM.own (i := 0) rfl, hc9⟩, HM.below⟩)
theorem qrw (g : Nat) (lim : Int) (A : Option Addr) (c : Nat) (out : List Nat) (w : World) (hg : w.heap[g]? = some (.cells #[.int .i64 lim, .slice A out.length c] 95 (0, 0))) (hlim : lim ≠ 0) :
    Calls Tryd.prog 18 #[.pointer (some ⟨g, 0, none⟩)] w (Is w (.int .i64 (out.length : Int))) := by
 refine qg (vs := [vP g 0]) Tryd.func18 rfl rfl (by kernel_rfl) (σ0 := [(0, vP g 0)]) rfl ?_
 intro a HF
 have HM := Mem.start w
 refine wp_seq (qa ?_)
 refine fp HF 1 0 [(2, vI 0)] fun a HF => ?_
 refine qb rfl (wp_seq (wp_seq (qa ?_)))
 refine fp HF 1 0 [(3, vP g 0)] fun a HF => ?_
 refine fo HF 1 rfl rfl ?_
 refine e_is HF HM [vP g 0] (.bool false) rfl rfl (qha g lim A out.length c _ (HM.oldBlk hg) hlim) fun w4 hbw HM a HF => ?_
 refine qb rfl (qe HF rfl (wp_skip (wp_seq (qa ?_))))
 refine fp HF 1 0 [(5, vP g 0)] fun a HF => ?_
 refine fy HF HM 1 rfl rfl rfl (v := vP g 0) (Yl.nilCheck rfl rfl) fun a HF => ?_
 refine fp HF 1 2 [(7, vP g 1)] fun a HF => ?_
 refine fy HF HM 3 rfl rfl rfl (v := .slice A out.length c) (Yl.qh rfl rfl (by kernel_rfl) (fun _ h => h.zf hg rfl)) fun a HF => ?_
 refine fy HF HM 4 rfl rfl rfl (Yl.len rfl rfl (by kernel_rfl)) fun a HF => ?_
 refine fp HF 1 5 [(2, vI out.length)] fun a HF => ?_
 refine qb rfl (wp_ret ?_)
 exact ret1 rfl HF (.tmp HF rfl) (⟨rfl, HM.below⟩)
def qw1 (w : World) (l : List Nat) (r : Ending) (w' : World) : Prop := ∃ g A c, r = .returned (.pointer (some ⟨g, 0, none⟩)) ∧ l.length ≤ c ∧ Mem w w' [.blk g #[.bool true, .int .i64 0, .slice A l.length c] 108, .row (.slice A l.length c) l.length (l.map B8) 5 1]
theorem Mem.skip {W w : World} {f : Fact} {fs : List Fact} (h : Mem W w (f :: fs)) : Mem W w fs := h.tail
theorem qom (A : Option Addr) (c : Nat) (l : List Nat) (w : World) (hr : Rd w w.heap.size 1 A l.length (l.map B8)) (hn : l.length ≤ 100000000) :
    Calls Tryd.prog 25 #[.slice A l.length c] w (qw1 w l) := by
 refine qg (vs := [.slice A l.length c]) Tryd.func25 rfl rfl (by kernel_rfl) (σ0 := [(0, .slice A l.length c)]) rfl ?_
 intro a HF
 have HM := Mem.start w
 refine wp_seq (qa ?_)
 refine fp HF 1 0 [(2, .pointer none)] fun a HF => ?_
 refine qb rfl (wp_seq (qa ?_))
 refine fp HF 1 0 [(3, .slice A l.length c)] fun a HF => ?_
 refine fo HF 1 rfl rfl ?_
 refine e_cl HF [.slice A l.length c] rfl rfl (qk1 A c l _ (HM.old hr) hn) ?_
 rintro _ w4 ⟨⟨A4, c4, rfl, ho, hc4⟩, hbw⟩
 refine ⟨_, rfl, ?_⟩
 replace HM := HM.callRow hbw ho
 clear HF; intro a HF
 refine fy HF HM 2 rfl rfl rfl (v := .agg #[.bool true, vI 0, .slice A4 l.length c4]) (Yl.build (vs := [(0, .bool true), (2, .slice A4 l.length c4)]) rfl (by kernel_rfl) (by kernel_rfl)) fun a HF => ?_
 refine fo HF 3 rfl rfl ?_
 refine e_box HF HM (cs := #[.bool true, vI 0, .slice A4 l.length c4]) rfl rfl rfl rfl (by decide) ?_
 clear HF HM; intro a w6 g6 HF HM
 refine fp HF 1 4 [(2, vP g6 0)] fun a HF => ?_
 refine qb rfl (wp_ret ?_)
 exact ret1 rfl HF (.tmp HF rfl) (⟨g6, A4, c4, rfl, hc4, HM⟩)
theorem qk3 (g p : Nat) (A : Option Addr) (c : Nat) (l : List Nat) (w : World) (hg : w.heap[g]? = some (.cells #[.bool true, .int .i64 (p : Int), .slice A l.length c] 108 (0, 0))) :
    Calls Tryd.prog 27 #[.pointer (some ⟨g, 0, none⟩)] w (Is w (.int .i64 (p : Int))) := by
 refine qg (vs := [vP g 0]) Tryd.func27 rfl rfl (by kernel_rfl) (σ0 := [(0, vP g 0)]) rfl ?_
 intro a HF
 have HM := Mem.start w
 refine wp_seq (qa ?_)
 refine fp HF 1 0 [(2, vI 0)] fun a HF => ?_
 refine qb rfl (wp_seq (wp_seq (qa ?_)))
 refine fp HF 1 0 [(3, vP g 0)] fun a HF => ?_
 refine fy HF HM 1 rfl rfl rfl (v := .bool false) (Yl.qne rfl rfl rfl) fun a HF => ?_
 refine qb rfl (qe HF rfl (wp_skip (wp_seq (qa ?_))))
 refine fp HF 1 0 [(5, vP g 0)] fun a HF => ?_
 refine fy HF HM 1 rfl rfl rfl (v := vP g 0) (Yl.nilCheck rfl rfl) fun a HF => ?_
 refine fp HF 1 2 [(7, vP g 1)] fun a HF => ?_
 refine fy HF HM 3 rfl rfl rfl (v := vI p) (Yl.qh rfl rfl (by kernel_rfl) (fun _ h => h.zf hg rfl)) fun a HF => ?_
 refine fp HF 1 4 [(2, vI p)] fun a HF => ?_
 refine qb rfl (wp_ret ?_)
 exact ret1 rfl HF (.tmp HF rfl) (⟨rfl, HM.below⟩)
theorem qon (W w : World) (g p : Nat) (A : Option Addr) (c : Nat) (l : List Nat) (fs : List Fact) (HW : Mem W w (.blk g #[.bool true, .int .i64 (p : Int), .slice A l.length c] 108 :: .row (.slice A l.length c) l.length (l.map B8) 5 1 :: fs)) (hp : p ≤ l.length) (hc : l.length ≤ c) (hl : ∀ b ∈ l, b < 256) (hn : l.length ≤ 100000000) (B : Nat) (hL : LaidX B w) (hBW : B ≤ W.heap.size) :
    Calls Tryd.prog 26 #[.pointer (some ⟨g, 0, none⟩)] w (quj W 108 g p l A c fs (nextR l p)) := by
 have hg := HW.blk (i := 0) rfl
 have hrA := HW.rd (i := 1) rfl
 have hB := Nat.le_trans hBW HW.size
 refine qg (vs := [vP g 0]) Tryd.func26 rfl rfl (by kernel_rfl) (σ0 := [(0, vP g 0)]) rfl ?_
 intro a HF
 have HM := Mem.start w
 refine wp_seq (qa ?_)
 refine fo HF 0 rfl rfl ?_
 refine qr HF HM (cs := #[vB 0, vB 0, vI 0, vI 0, .slice none 0 0]) rfl (by kernel_rfl) rfl (by decide) ?_
 clear HF HM; intro a w2 g2 HF HM
 refine fp HF 1 1 [(3, vI 0)] fun a HF => ?_
 refine qb rfl (wp_seq (wp_seq (qa ?_)))
 refine fp HF 1 0 [(7, vP g 0)] fun a HF => ?_
 refine fy HF HM 1 rfl rfl rfl (v := .bool false) (Yl.qne rfl rfl rfl) fun a HF => ?_
 refine fp HF 2 2 [(10, vP g 0), (9, .bool false)] fun a HF => ?_
 refine fy HF HM 4 rfl rfl rfl (v := vP g 0) (Yl.nilCheck rfl rfl) fun a HF => ?_
 refine fp HF 1 5 [(12, vP g 0)] fun a HF => ?_
 refine fy HF HM 6 rfl rfl rfl (v := .bool true) (Yl.qh rfl rfl (by kernel_rfl) (fun _ h => h.zf hg rfl)) fun a HF => ?_
 refine fp HF 2 7 [(15, .bool false)] fun a HF => ?_
 refine qb rfl (qe HF rfl (wp_skip (wp_seq (wp_seq ?_))))
 refine qad HM [.blk g2 #[vB 0, vB 0, vI 0, vI 0, .slice none 0 0] 41] [0] [] fun HM HS => ?_
 refine ap HF (fun _ => HS) [0, 4] #[true, false, false, false, true, false, false, false, false, false] [(21, vP g 0), (17, vP g 0)] fun a HF => ?_
 refine ay HF HS 1 rfl rfl rfl (v := vP g 0) (Yl.nilCheck rfl rfl) fun a HF => ?_
 refine ap HF (fun _ => HS) [2] #[true, true, true, false, true, false, false, false, false, false] [(19, vP g 1)] fun a HF => ?_
 refine ay HF HS 3 rfl rfl rfl (v := vI p) (Yl.qh rfl rfl (by kernel_rfl) (fun _ h => h.zf hg rfl)) fun a HF => ?_
 refine ay HF HS 5 rfl rfl rfl (v := vP g 0) (Yl.nilCheck rfl rfl) fun a HF => ?_
 refine ap HF (fun _ => HS) [6] #[true, true, true, true, true, true, true, false, false, false] [(23, vP g 2)] fun a HF => ?_
 refine ay HF HS 7 rfl rfl rfl (v := .slice A l.length c) (Yl.qh rfl rfl (by kernel_rfl) (fun _ h => h.zf hg rfl)) fun a HF => ?_
 refine ay HF HS 8 rfl rfl rfl (Yl.len rfl rfl (by kernel_rfl)) fun a HF => ?_
 refine ap HF (fun _ => HS) [9] #[true, true, true, true, true, true, true, true, true, true] [(26, .bool ((p : Int) == (l.length : Int)))] fun a HF => ?_
 refine qn (by kernel_rfl) ?_
 rcases HF.tf 26 rfl with ⟨hb26, HF⟩ | ⟨hb26, HF⟩
 ·
  have hd26 := eq_of_beq hb26
  have hpl : p = l.length := by omega
  have hz : nextR l p = (Bk.zero, 0, 6) := if_pos hpl
  refine qf HF rfl (wp_seq (qa ?_))
  refine fy HF HM 0 rfl rfl rfl (v := .agg #[vB 0, vB 0, vI 0, vI 0, .slice none 0 0]) (Yl.build (vs := []) rfl (by kernel_rfl) (by kernel_rfl)) fun a HF => ?_
  refine fo HF 1 rfl rfl ?_
  refine e_sa HF HM 0 rfl rfl rfl rfl rfl si_bk rfl rfl (by simp [Value.oneCell']) ?_
  clear HM; intro w4_1 HM
  refine fp HF 1 2 [(3, vI 6)] fun a HF => ?_
  refine qb rfl (wp_ret ?_)
  exact ret2 rfl HF (.cellS (i := 0) HF HM rfl rfl si_bk rfl) (.tmp HF rfl) (by have HM := HW.join HM; exact qkp (b := Bk.zero) (A' := none) (c' := 0) hz rfl (Nat.le_refl _) (Mem.nil (Mem.skip HM) _ _))
 have hd26 := ne_of_beq_false hb26
 have hpl : p ≠ l.length := by omega
 obtain ⟨b, m, er, hq⟩ : ∃ b m er, readB (l.drop p) = (b, m, er) := ⟨_, _, _, rfl⟩
 have hz : nextR l p = (b, m, er) := (if_neg hpl).trans hq
 have hpm := qrh hl hp hz
 refine qe HF rfl (wp_skip ?_)
 refine qba (fun aS wS => ∃ (A38 : Option Addr) (c38 : Nat) (g4 : Nat), Fr aS 52 [] [(6, vI er), (5, vI m), (4, vP g4 0), (26, .bool false), (15, .bool false), (3, vI 0), (2, vP g2 0), (0, vP g 0)] ∧ Mem w wS [.blk g4 (b.cells A38 c38) 41, .row (.slice A38 b.evs.length c38) b.evs.length (b.evs.flatMap evL) 45 11, .blk g2 #[vB 0, vB 0, vI 0, vI 0, .slice none 0 0] 41] ∧ (b.evs.length ≤ c38)) ?_ ?_
 ·
  refine qad HM [.blk g2 #[vB 0, vB 0, vI 0, vI 0, .slice none 0 0] 41] [0] [15] fun HM HS => ?_
  refine ap HF (fun _ => HS) [0, 4] #[true, false, false, false, true, false, false, false, false, false, false, false, false, false, false, false, false, false] [(33, vP g 0), (29, vP g 0)] fun a HF => ?_
  refine ay HF HS 1 rfl rfl rfl (v := vP g 0) (Yl.nilCheck rfl rfl) fun a HF => ?_
  refine ap HF (fun _ => HS) [2] #[true, true, true, false, true, false, false, false, false, false, false, false, false, false, false, false, false, false] [(31, vP g 2)] fun a HF => ?_
  refine ay HF HS 3 rfl rfl rfl (v := .slice A l.length c) (Yl.qh rfl rfl (by kernel_rfl) (fun _ h => h.zf hg rfl)) fun a HF => ?_
  refine ay HF HS 5 rfl rfl rfl (v := vP g 0) (Yl.nilCheck rfl rfl) fun a HF => ?_
  refine ap HF (fun _ => HS) [6] #[true, true, true, true, true, true, true, false, false, false, false, false, false, false, false, false, false, false] [(35, vP g 1)] fun a HF => ?_
  refine ay HF HS 7 rfl rfl rfl (v := vI p) (Yl.qh rfl rfl (by kernel_rfl) (fun _ h => h.zf hg rfl)) fun a HF => ?_
  refine ay HF HS 8 rfl rfl rfl (v := .slice (if c = p then A else A.map (·.add (p * 1))) (l.length - p) (c - p)) (Yl.sliceFrom ei_u8 (j := p) rfl rfl rfl (by omega)) fun a HF => ?_
  refine qi [9, 14] (by kernel_rfl) rfl ?_
  refine all_cons ?_ ?_
  ·refine qk HF (i := 9) rfl rfl ?_
   refine e_cl HF [.slice (if c = p then A else A.map (·.add (p * 1))) (l.length - p) (c - p)] rfl rfl (qi0 (if c = p then A else A.map (·.add (p * 1))) (l.length - p) (c - p) (l.drop p) B _ (hL.mem HM hB) (HM.le hB) (HM.old (hrA.qnc hp hc)) (by omega) (by rw [List.length_drop]) (by omega) (qa4 hl p) hq) ?_
   rintro _ w38 ⟨⟨A38, c38, rfl, ho, hc38⟩, hbw⟩
   refine ⟨_, rfl, ?_⟩
   replace HM := HM.callRow hbw ho
   clear HF; intro a HF
   refine keepS (HM.picks [1] (by decide) rfl) (fun HS => ?_)
   refine ap HF (fun _ => HS) [10, 11, 12, 13] #[true, true, true, true, true, true, true, true, true, true, true, true, true, true, false, false, false, false] [(41, vI er), (40, vI m), (39, .agg (b.cells A38 c38))] fun a HF => ?_
   refine qi [14] (by kernel_rfl) rfl ?_
   refine all_cons ?_ all_nil
   refine qk HF (i := 14) rfl rfl ?_
   refine qr HF HM (cs := #[vB 0, vB 0, vI 0, vI 0, .slice none 0 0]) rfl (by kernel_rfl) rfl (by decide) ?_
   clear HF HM; intro a w4 g4 HF HM
   refine keepS (HM.picks [2] (by decide) rfl) (fun HS => ?_)
   refine qi [15] (by kernel_rfl) rfl ?_
   refine all_cons ?_ all_nil
   refine qk HF (i := 15) rfl rfl ?_
   refine e_sa HF HM 0 rfl rfl rfl rfl rfl si_bk rfl rfl (qa6 _ _ _) ?_
   clear HM; intro w5_15 HM
   refine noS (by kernel_rfl) ?_
   refine ap HF (pastS (by kernel_rfl)) [16, 17] #[true, true, true, true, true, true, true, true, true, true, true, true, true, true, true, true, true, true] [(6, vI er), (5, vI m)] fun a HF => ?_
   refine qn (by kernel_rfl) ?_
   exact ⟨A38, c38, g4, HF.sub (by kernel_rfl), HM.picks [0, 1, 2] (by decide) rfl, hc38⟩
  refine all_cons ?_ all_nil
  refine qk HF (i := 14) rfl rfl ?_
  refine qr HF HM (cs := #[vB 0, vB 0, vI 0, vI 0, .slice none 0 0]) rfl (by kernel_rfl) rfl (by decide) ?_
  clear HF HM; intro a w4 g4 HF HM
  refine keepS (HM.picks [1] (by decide) rfl) (fun HS => ?_)
  refine qi [9] (by kernel_rfl) rfl ?_
  refine all_cons ?_ all_nil
  refine qk HF (i := 9) rfl rfl ?_
  refine e_cl HF [.slice (if c = p then A else A.map (·.add (p * 1))) (l.length - p) (c - p)] rfl rfl (qi0 (if c = p then A else A.map (·.add (p * 1))) (l.length - p) (c - p) (l.drop p) B _ (hL.mem HM hB) (HM.le hB) (HM.old (hrA.qnc hp hc)) (by omega) (by rw [List.length_drop]) (by omega) (qa4 hl p) hq) ?_
  rintro _ w38 ⟨⟨A38, c38, rfl, ho, hc38⟩, hbw⟩
  refine ⟨_, rfl, ?_⟩
  replace HM := HM.callRow hbw ho
  clear HF; intro a HF
  refine keepS (HM.picks [2] (by decide) rfl) (fun HS => ?_)
  refine ap HF (fun _ => HS) [10, 11, 12, 13] #[true, true, true, true, true, true, true, true, true, true, true, true, true, true, true, false, false, false] [(41, vI er), (40, vI m), (39, .agg (b.cells A38 c38))] fun a HF => ?_
  refine qi [15] (by kernel_rfl) rfl ?_
  refine all_cons ?_ all_nil
  refine qk HF (i := 15) rfl rfl ?_
  refine e_sa HF HM 1 rfl rfl rfl rfl rfl si_bk rfl rfl (qa6 _ _ _) ?_
  clear HM; intro w5_15 HM
  refine noS (by kernel_rfl) ?_
  refine ap HF (pastS (by kernel_rfl)) [16, 17] #[true, true, true, true, true, true, true, true, true, true, true, true, true, true, true, true, true, true] [(6, vI er), (5, vI m)] fun a HF => ?_
  refine qn (by kernel_rfl) ?_
  exact ⟨A38, c38, g4, HF.sub (by kernel_rfl), HM.picks [1, 0, 2] (by decide) rfl, hc38⟩
 clear HF HM; rintro a w5 ⟨A38, c38, g4, HF, HM, hc38⟩
 skip
 ·
  replace HM : Mem W _ (.blk g4 (b.cells A38 c38) 41 :: .row (.slice A38 b.evs.length c38) b.evs.length (b.evs.flatMap evL) 45 11 :: .blk g2 #[vB 0, vB 0, vI 0, vI 0, .slice none 0 0] 41 :: .blk g #[.bool true, vI p, .slice A l.length c] 108 :: .row (.slice A l.length c) l.length (l.map B8) 5 1 :: fs) := HW.join HM
  refine wp_seq (qa ?_)
  refine fp HF 1 0 [(42, vP g 0)] fun a HF => ?_
  refine fy HF HM 1 rfl rfl rfl (v := vP g 0) (Yl.nilCheck rfl rfl) fun a HF => ?_
  refine fp HF 1 2 [(44, vP g 1)] fun a HF => ?_
  refine fy HF HM 3 rfl rfl rfl (Yl.qh rfl rfl (by kernel_rfl) (fun _ h => h.cell (i := 3) rfl rfl)) fun a HF => ?_
  refine fp HF 2 4 [(47, vI (IntKind.i64.wrap ((p : Int) + (m : Int))))] fun a HF => ?_
  replace HF := HF.sp 47 (vI (p + m : Nat)) rfl (ql (by omega) (by omega))
  refine fy HF HM 6 rfl rfl rfl (v := vP g 0) (Yl.nilCheck rfl rfl) fun a HF => ?_
  refine fp HF 1 7 [(49, vP g 1)] fun a HF => ?_
  refine fo HF 8 rfl rfl ?_
  refine qo HF HM (i := 3) (cs := #[.bool true, vI p, .slice A l.length c]) rfl rfl rfl rfl (by kernel_rfl) rfl rfl (by simp) ?_
  clear HM; intro w6_8 HM
  refine qb rfl (wp_seq (qa ?_))
  refine fy HF HM 0 rfl rfl rfl (v := .agg (b.cells A38 c38)) (Yl.zg rfl rfl si_bk rfl (fun _ h => qd (h.blk (i := 0) rfl))) fun a HF => ?_
  refine fp HF 1 1 [(51, vI er)] fun a HF => ?_
  refine fo HF 2 rfl rfl ?_
  refine e_sa HF HM 2 rfl rfl rfl rfl rfl si_bk rfl rfl (qa6 _ _ _) ?_
  clear HM; intro w7_2 HM
  refine fp HF 1 3 [(3, vI er)] fun a HF => ?_
  refine qb rfl (wp_ret ?_)
  exact ret2 rfl HF (.cellS (i := 2) HF HM rfl rfl si_bk rfl) (.tmp HF rfl) (qkp hz rfl hc38 (HM.picksT 5 [1, 3, 4] (by decide) (by decide) rfl))
theorem qts (lim : Int) (w : World) (h : 1 ≤ lim ∧ lim ≤ 4096) : Calls Tryd.prog 14 #[.int .i64 lim] w fun r w' => ∃ g, r = .returned (.tuple #[.pointer (some ⟨g, 0, none⟩), .int .i64 0]) ∧ Mem w w' [.blk g #[.int .i64 lim, .slice none 0 0] 95] :=
 (qru lim (by unfold I64; omega) w).mono fun r w' h1 => by
  rcases h1 with ⟨h2, _⟩ | ⟨_, h2⟩
  ·omega
  ·exact h2
theorem qnb (W w : World) (g : Nat) (lim : Int) (A : Option Addr) (c : Nat) (out : List Nat) (fs : List Fact) (HW : Mem W w (.blk g #[.int .i64 lim, .slice A out.length c] 95 :: .row (.slice A out.length c) out.length (out.map B8) 5 1 :: fs)) (hc : out.length ≤ c) (hout : out.length ≤ 524288) (hlim : lim ≠ 0) (next : Int) (hnx : I64 next) (B : Nat) (hL : LaidX B w) (hBW : B ≤ W.heap.size) {o2 : List Nat} {we : Nat} (h : qa7 out [endB next] = (o2, we)) :
  Calls Tryd.prog 15 #[.pointer (some ⟨g, 0, none⟩), .int .i64 next] w (WrIs W 95 g lim o2 fs (.int .i64 (we : Int))) := by
 have h1 := qrv W w g lim A c out fs HW hc hout hlim next hnx B hL hBW
 rw [h] at h1
 exact h1
theorem qtt (g : Nat) (lim : Int) (A : Option Addr) (c : Nat) (out : List Nat) (w : World) (hg : w.heap[g]? = some (.cells #[.int .i64 lim, .slice A out.length c] 95 (0, 0))) (hlim : lim ≠ 0) {n : Nat} (h : out.length = n) :
  Calls Tryd.prog 18 #[.pointer (some ⟨g, 0, none⟩)] w (Is w (.int .i64 (n : Int))) := by
 have h1 := qrw g lim A c out w hg hlim
 rw [h] at h1
 exact h1
theorem qk4 (W w : World) (g p : Nat) (A : Option Addr) (c : Nat) (l : List Nat) (fs : List Fact) (HW : Mem W w (.blk g #[.bool true, .int .i64 (p : Int), .slice A l.length c] 108 :: .row (.slice A l.length c) l.length (l.map B8) 5 1 :: fs)) (hp : p ≤ l.length) (hc : l.length ≤ c) (hl : ∀ b ∈ l, b < 256) (hn : l.length ≤ 100000000) (B : Nat) (hL : LaidX B w) (hBW : B ≤ W.heap.size) {b : Bk} {m er : Nat} (h : nextR l p = (b, m, er)) {p2 : Nat} (h2 : p + m = p2 := by rfl) :
  Calls Tryd.prog 26 #[.pointer (some ⟨g, 0, none⟩)] w fun r w' => ∃ A' c', r = .returned (.tuple #[.agg (b.cells A' c'), .int .i64 (er : Int)]) ∧ b.evs.length ≤ c' ∧ Mem W w' (.row (.slice A' b.evs.length c') b.evs.length (b.evs.flatMap evL) 45 11 :: .blk g #[.bool true, .int .i64 ((p2 : Nat) : Int), .slice A l.length c] 108 :: .row (.slice A l.length c) l.length (l.map B8) 5 1 :: fs) := by
 have h1 := qon W w g p A c l fs HW hp hc hl hn B hL hBW
 subst h2
 rw [h] at h1
 exact h1
theorem quq (A : Option Addr) (n c : Nat) (l : List Nat) (B : Nat) (w : World) (hL : LaidX B w) (hB : B ≤ w.heap.size) (hr : Rd w w.heap.size 1 A n (l.map B8)) (hc : n ≤ c) (hl : ∀ b ∈ l, b < 256) (hln : l.length = n) (hn : n ≤ 100000000) {bs : List Bk} {p er : Nat} (h : qbo l = (bs, p, er)) :
  Calls Tryd.prog 22 #[.slice A n c] w (Is w (.tuple #[.int .i64 (bs.length : Int), .int .i64 (p : Int), .int .i64 (er : Int)])) := by
 subst hln
 have h1 := qvv A c l B w hL hB hr hc hl hn
 rw [h] at h1
 exact h1
theorem qe8 (w : World) : Calls Tryd.prog 32 #[] w fun r w' => ∃ g, r = .returned (.slice (some ⟨g, 0, none⟩) 2 2) ∧ w'.ownsRow w.heap.size 47 12 (.slice (some ⟨g, 0, none⟩) 2 2) 2 (exI.flatMap itL) ∧ Below w.heap.size w w' := by
 refine qg (vs := []) Tryd.func32 rfl rfl (by kernel_rfl) (σ0 := []) rfl ?_
 intro a HF
 have HM := Mem.start w
 refine wp_seq (qa ?_)
 refine fp HF 1 0 [(0, .slice none 0 0)] fun a HF => ?_
 refine qb rfl (wp_seq (qa ?_))
 refine fy HF HM 0 rfl rfl rfl (v := .agg #[vI 5, vI 340, vB 2, vB 5, vI 0, vI 0, vI 0, vI 0, vI 40, vQ 0, vI 7]) (Yl.build (vs := [(0, vI 5), (1, vI 340), (2, vB 2), (3, vB 5), (8, vI 40), (10, vI 7)]) rfl (by kernel_rfl) (by kernel_rfl)) fun a HF => ?_
 refine fy HF HM 1 rfl rfl rfl (v := .agg #[vI 5, vI 340, vB 2, vB 5, vI 0, vI 0, vI 0, vI 0, vI 40, vQ 0, vI 7, vI 3]) (Yl.build (vs := [(0, .agg #[vI 5, vI 340, vB 2, vB 5, vI 0, vI 0, vI 0, vI 0, vI 40, vQ 0, vI 7]), (1, vI 3)]) rfl (by kernel_rfl) (by kernel_rfl)) fun a HF => ?_
 refine fy HF HM 2 rfl rfl rfl (v := .agg #[vI 9, vI 340, vB 2, vB 6, vI 0, vI 0, vI 0, vI 0, vI 0, vQ 0, vI 0]) (Yl.build (vs := [(0, vI 9), (1, vI 340), (2, vB 2), (3, vB 6)]) rfl (by kernel_rfl) (by kernel_rfl)) fun a HF => ?_
 refine fy HF HM 3 rfl rfl rfl (v := .agg #[vI 9, vI 340, vB 2, vB 6, vI 0, vI 0, vI 0, vI 0, vI 0, vQ 0, vI 0, vI 0]) (Yl.build (vs := [(0, .agg #[vI 9, vI 340, vB 2, vB 6, vI 0, vI 0, vI 0, vI 0, vI 0, vQ 0, vI 0])]) rfl (by kernel_rfl) (by kernel_rfl)) fun a HF => ?_
 refine fo HF 4 rfl rfl ?_
 refine qan HF HM (vs := [(0, .agg #[vI 5, vI 340, vB 2, vB 5, vI 0, vI 0, vI 0, vI 0, vI 40, vQ 0, vI 7, vI 3]), (1, .agg #[vI 9, vI 340, vB 2, vB 6, vI 0, vI 0, vI 0, vI 0, vI 0, vQ 0, vI 0, vI 0])]) (cs := #[vI 5, vI 340, vB 2, vB 5, vI 0, vI 0, vI 0, vI 0, vI 40, vQ 0, vI 7, vI 3, vI 9, vI 340, vB 2, vB 6, vI 0, vI 0, vI 0, vI 0, vI 0, vQ 0, vI 0, vI 0]) rfl ei_it (by decide) rfl (by kernel_rfl) rfl (by decide) ?_
 clear HF HM; intro a w5 g5 HF HM
 refine fp HF 1 5 [(0, vS g5 2 2)] fun a HF => ?_
 refine qb rfl (wp_ret ?_)
 exact ret1 rfl HF (.tmp HF rfl) (⟨g5, rfl, (HM.blkRow (i := 0) (n := 2) (size := 12) rfl rfl (by decide)).own (i := 0) rfl, HM.below⟩)
theorem qoo (B : Nat) (w : World) (hL : LaidX B w) (hB : B ≤ w.heap.size) : Calls Tryd.prog 10 #[] w (Is w (.bool true)) := by
 refine qg (vs := []) Tryd.func10 rfl rfl (by kernel_rfl) (σ0 := []) rfl ?_
 intro a HF
 have HM := Mem.start w
 refine wp_seq (qa ?_)
 refine fp HF 1 0 [(0, .bool false)] fun a HF => ?_
 refine qb rfl (wp_seq (qa ?_))
 refine fo HF 0 rfl rfl ?_
 refine e_cl HF [] rfl rfl (qe8 _) ?_
 rintro _ w20 ⟨g20, rfl, ho, hbw⟩
 refine ⟨_, rfl, ?_⟩
 replace HM := HM.callRow hbw ho
 clear HF; intro a HF
 refine fo HF 1 rfl rfl ?_
 refine e_cl HF [vB 2, vS g20 2 2, vI 2, vI 1] rfl rfl (qgf 2 (by decide) (some ⟨g20, 0, none⟩) 2 2 exI 2 1 qup (by unfold I64; decide) (by unfold I64; decide) B _ (hL.mem HM hB) (HM.le hB) (HM.rd (i := 0) rfl) (by decide) rfl (by decide) sa1) ?_
 rintro _ w21 ⟨A21, c21, q21, rfl, hq21, hc21, hm⟩
 obtain ⟨x1, x2, rfl, hex1, hex2⟩ := map2 hq21
 refine ⟨_, rfl, ?_⟩
 replace HM := HM.callRow hm.below (hm.own (i := 0) rfl)
 clear HF; intro a HF
 refine fp HF 5 2 [(2, vI 0), (1, .slice A21 2 c21)] fun a HF => ?_
 refine qb rfl (wp_seq (qa ?_))
 refine fo HF 0 rfl rfl ?_
 refine e_cl HF [] rfl rfl (qe8 _) ?_
 rintro _ w25 ⟨g25, rfl, ho, hbw⟩
 refine ⟨_, rfl, ?_⟩
 replace HM := HM.callRow hbw ho
 clear HF; intro a HF
 refine fo HF 1 rfl rfl ?_
 refine e_cl HF [vB 2, vS g25 2 2, vI 2, vI 2] rfl rfl (qgf 2 (by decide) (some ⟨g25, 0, none⟩) 2 2 exI 2 2 qup (by unfold I64; decide) (by unfold I64; decide) B _ (hL.mem HM hB) (HM.le hB) (HM.rd (i := 0) rfl) (by decide) rfl (by decide) sa2) ?_
 rintro _ w26 ⟨A26, c26, q26, rfl, hq26, hc26, hm⟩
 obtain ⟨x3, rfl, hex3⟩ := map1 hq26
 refine ⟨_, rfl, ?_⟩
 replace HM := HM.callRow hm.below (hm.own (i := 0) rfl)
 clear HF; intro a HF
 refine fp HF 5 2 [(4, vI 0), (3, .slice A26 1 c26)] fun a HF => ?_
 refine qb rfl (wp_seq (qa ?_))
 refine fo HF 0 rfl rfl ?_
 refine e_cl HF [vB 2, .slice none 0 0, vI 0, vI 1] rfl rfl (qgf 2 (by decide) none 0 0 [] 0 1 (by intro x hx; cases hx) (by unfold I64; decide) (by unfold I64; decide) B _ (hL.mem HM hB) (HM.le hB) (Rd.nil) (by decide) rfl (by decide) sa3) ?_
 rintro _ w30 ⟨A30, c30, q30, rfl, hq30, hc30, hm⟩
 obtain rfl := List.map_eq_nil_iff.1 hq30
 refine ⟨_, rfl, ?_⟩
 replace HM := HM.callRow hm.below (hm.own (i := 0) rfl)
 clear HF; intro a HF
 refine fp HF 5 1 [(6, vI 0), (5, .slice A30 0 c30)] fun a HF => ?_
 refine qb rfl (wp_seq (qa ?_))
 refine fo HF 0 rfl rfl ?_
 refine e_cl HF [vB 2, .slice none 0 0, vI 2, vI 1] rfl rfl (qgf 2 (by decide) none 0 0 [] 2 1 (by intro x hx; cases hx) (by unfold I64; decide) (by unfold I64; decide) B _ (hL.mem HM hB) (HM.le hB) (Rd.nil) (by decide) rfl (by decide) sa4) ?_
 rintro _ w34 ⟨A34, c34, q34, rfl, hq34, hc34, hm⟩
 obtain ⟨x4, rfl, hex4⟩ := map1 hq34
 refine ⟨_, rfl, ?_⟩
 replace HM := HM.callRow hm.below (hm.own (i := 0) rfl)
 clear HF; intro a HF
 refine fp HF 5 1 [(8, vI 0), (7, .slice A34 1 c34)] fun a HF => ?_
 refine qb rfl (wp_seq (wp_seq (qa ?_)))
 refine fp HF 10 0 [(46, .slice A21 2 c21), (45, .bool false)] fun a HF => ?_
 refine fy HF HM 10 rfl rfl rfl (Yl.len rfl rfl (by kernel_rfl)) fun a HF => ?_
 refine fp HF 4 11 [(51, .slice A21 2 c21), (50, .bool false)] fun a HF => ?_
 obtain ⟨gA21, rfl⟩ := qb6 (HM.own (i := 4) rfl) (Nat.lt_of_le_of_lt (Nat.zero_le _) (show 0 < 2 from by decide))
 refine fy HF HM 15 rfl rfl rfl (v := vP gA21 0) (Yl.indexAddr (ad := ⟨gA21, 0, none⟩) (y := 0) (sz := 5) rfl rfl rfl (by decide) (by kernel_rfl)) fun a HF => ?_
 refine fp HF 1 16 [(53, vP gA21 2)] fun a HF => ?_
 refine fy HF HM 17 rfl rfl rfl (v := vI x1.b.lost) (Yl.qh rfl rfl (by kernel_rfl) (fun _ h => h.qef qde (i := 4) rfl (k := 0) (off := 2) (x := x1) (rfl) rfl)) fun a HF => ?_
 replace HF := HF.sp 54 (vI 3) rfl (by rw [hex1])
 refine fp HF 4 18 [(58, vS gA21 2 c21), (57, .bool false)] fun a HF => ?_
 refine fy HF HM 22 rfl rfl rfl (v := vP gA21 5) (Yl.indexAddr (ad := ⟨gA21, 0, none⟩) (y := 1) (sz := 5) rfl rfl rfl (by decide) (by kernel_rfl)) fun a HF => ?_
 refine fp HF 1 23 [(60, vP gA21 7)] fun a HF => ?_
 refine fy HF HM 24 rfl rfl rfl (v := vI x2.b.lost) (Yl.qh rfl rfl (by kernel_rfl) (fun _ h => h.qef qde (i := 4) rfl (k := 1) (off := 2) (x := x2) (rfl) rfl)) fun a HF => ?_
 replace HF := HF.sp 61 (vI 2) rfl (by rw [hex2])
 refine fp HF 4 25 [(65, .slice A26 1 c26), (64, .bool false)] fun a HF => ?_
 refine fy HF HM 29 rfl rfl rfl (Yl.len rfl rfl (by kernel_rfl)) fun a HF => ?_
 refine fp HF 4 30 [(70, .slice A26 1 c26), (69, .bool false)] fun a HF => ?_
 obtain ⟨gA26, rfl⟩ := qb6 (HM.own (i := 2) rfl) (Nat.lt_of_le_of_lt (Nat.zero_le _) (show 0 < 1 from by decide))
 refine fy HF HM 34 rfl rfl rfl (v := vP gA26 0) (Yl.indexAddr (ad := ⟨gA26, 0, none⟩) (y := 0) (sz := 5) rfl rfl rfl (by decide) (by kernel_rfl)) fun a HF => ?_
 refine fp HF 1 35 [(72, vP gA26 2)] fun a HF => ?_
 refine fy HF HM 36 rfl rfl rfl (v := vI x3.b.lost) (Yl.qh rfl rfl (by kernel_rfl) (fun _ h => h.qef qde (i := 2) rfl (k := 0) (off := 2) (x := x3) (rfl) rfl)) fun a HF => ?_
 replace HF := HF.sp 73 (vI 5) rfl (by rw [hex3])
 refine fp HF 4 37 [(77, vS gA26 1 c26), (76, .bool false)] fun a HF => ?_
 refine fy HF HM 41 rfl rfl rfl (v := vP gA26 0) (Yl.indexAddr (ad := ⟨gA26, 0, none⟩) (y := 0) (sz := 5) rfl rfl rfl (by decide) (by kernel_rfl)) fun a HF => ?_
 refine fp HF 1 42 [(79, vP gA26 4)] fun a HF => ?_
 refine fy HF HM 43 rfl rfl rfl (v := .slice x3.A x3.b.evs.length x3.c) (Yl.qh rfl rfl (by kernel_rfl) (fun _ h => h.qef qde (i := 2) rfl (k := 0) (off := 4) (x := x3) (rfl) rfl)) fun a HF => ?_
 replace HF := HF.sp 80 (.slice x3.A 2 x3.c) rfl (by rw [hex3]; rfl)
 refine fy HF HM 44 rfl rfl rfl (Yl.len rfl rfl (by kernel_rfl)) fun a HF => ?_
 refine fp HF 4 45 [(85, .slice A30 0 c30), (84, .bool false)] fun a HF => ?_
 refine fy HF HM 49 rfl rfl rfl (Yl.len rfl rfl (by kernel_rfl)) fun a HF => ?_
 refine fp HF 4 50 [(90, .slice A34 1 c34), (89, .bool false)] fun a HF => ?_
 refine fy HF HM 54 rfl rfl rfl (Yl.len rfl rfl (by kernel_rfl)) fun a HF => ?_
 refine fp HF 4 55 [(95, .slice A34 1 c34), (94, .bool false)] fun a HF => ?_
 obtain ⟨gA34, rfl⟩ := qb6 (HM.own (i := 0) rfl) (Nat.lt_of_le_of_lt (Nat.zero_le _) (show 0 < 1 from by decide))
 refine fy HF HM 59 rfl rfl rfl (v := vP gA34 0) (Yl.indexAddr (ad := ⟨gA34, 0, none⟩) (y := 0) (sz := 5) rfl rfl rfl (by decide) (by kernel_rfl)) fun a HF => ?_
 refine fp HF 1 60 [(97, vP gA34 2)] fun a HF => ?_
 refine fy HF HM 61 rfl rfl rfl (v := vI x4.b.lost) (Yl.qh rfl rfl (by kernel_rfl) (fun _ h => h.qef qde (i := 0) rfl (k := 0) (off := 2) (x := x4) (rfl) rfl)) fun a HF => ?_
 replace HF := HF.sp 98 (vI 2) rfl (by rw [hex4])
 refine fp HF 2 62 [(100, .bool false)] fun a HF => ?_
 refine qb rfl ?_
 replace HF := HF.to [(100, .bool false), (0, .bool false)]
 refine qe HF rfl (wp_skip (wp_seq (qa ?_)))
 refine fo HF 0 rfl rfl ?_
 refine e_cl HF [vI 9] rfl rfl (qts 9 _ (by decide)) ?_
 rintro _ w102 ⟨gw102, rfl, hm⟩
 refine ⟨_, rfl, ?_⟩
 replace HM := (HM.join hm).nil 5 1
 clear HF; intro a HF
 refine fp HF 5 1 [(10, vI 0), (9, vP gw102 0)] fun a HF => ?_
 refine qb rfl (wp_seq (wp_seq (qa ?_)))
 refine fp HF 4 0 [(108, vP gw102 0), (107, .bool false)] fun a HF => ?_
 refine fy HF HM 4 rfl rfl rfl (v := .bool false) (Yl.qne rfl rfl rfl) fun a HF => ?_
 refine fp HF 3 5 [(112, vP gw102 0), (111, .bool false)] fun a HF => ?_
 refine fo HF 8 rfl rfl ?_
 refine e_cl HF [vP gw102 0, vI 0] rfl rfl (qnb _ _ gw102 9 none 0 [] _ (HM.picks [1, 0, 2, 3, 4, 5, 6, 7] (by decide) rfl) (by first | exact Nat.le_refl _ | omega | exact Nat.zero_le _) (by first | decide | omega) (by decide) 0 (by unfold I64; decide) B (hL.mem HM hB) hB sa5) ?_
 rintro _ w113 ⟨rfl, A113, c113, hc113, HM2⟩
 refine ⟨_, rfl, ?_⟩
 replace HM := HM2
 clear HF; intro a HF
 refine fp HF 4 9 [(117, vP gw102 0), (116, .bool false)] fun a HF => ?_
 refine fo HF 13 rfl rfl ?_
 refine e_cl HF [vP gw102 0, vI 7] rfl rfl (qnb _ _ gw102 9 A113 c113 [] _ (HM.picks [0, 1, 2, 3, 4, 5, 6, 7] (by decide) rfl) (by first | exact Nat.le_refl _ | omega | exact Nat.zero_le _) (by first | decide | omega) (by decide) 7 (by unfold I64; decide) B (hL.mem HM hB) hB sa6) ?_
 rintro _ w118 ⟨rfl, A118, c118, hc118, HM2⟩
 refine ⟨_, rfl, ?_⟩
 replace HM := HM2
 clear HF; intro a HF
 refine fp HF 4 14 [(122, vP gw102 0), (121, .bool false)] fun a HF => ?_
 refine fo HF 18 rfl rfl ?_
 refine e_cl HF [vP gw102 0] rfl rfl (qtt gw102 9 A118 c118 awX _ (HM.blk (i := 0) rfl) (by decide) rfl) ?_
 rintro _ w123 ⟨rfl, hbw⟩
 refine ⟨_, rfl, ?_⟩
 replace HM := HM.call hbw
 clear HF; intro a HF
 refine fp HF 2 19 [(125, .bool false)] fun a HF => ?_
 refine qb rfl (qe HF rfl (wp_skip (wp_seq (qa ?_))))
 refine fp HF 1 0 [(127, vP gw102 0)] fun a HF => ?_
 refine fo HF 1 rfl rfl ?_
 refine e_cl HF [vP gw102 0] rfl rfl (qhb gw102 9 A118 c118 awX _ (HM.blk (i := 0) rfl) (HM.rd (i := 1) rfl) (by first | decide | omega) (by decide)) ?_
 rintro _ w128 ⟨⟨A128, c128, rfl, ho, hc128⟩, hbw⟩
 refine ⟨_, rfl, ?_⟩
 replace HM := HM.callRow hbw ho
 clear HF; intro a HF
 refine fo HF 2 rfl rfl ?_
 refine qan HF HM (vs := [(0, vB 1)]) (cs := #[vB 1]) rfl ei_u8 (by decide) rfl (by kernel_rfl) rfl (by decide) ?_
 clear HF HM; intro a w129 g129 HF HM
 refine fo HF 3 rfl rfl ?_
 refine zh HF HM (i := 1) rfl ei_u8 rfl rfl rfl (news := ([1].map B8)) (HM.rdBlk (i := 0) (n := 1) (size := 1) rfl rfl) (qd1 _) (by decide) (by decide) rfl (by decide) ?_
 clear HF HM; intro a w130 A130 c130 HF HM hc130
 rw [show (awX.map B8) ++ ([1].map B8) = (awX ++ [1]).map B8 from by rw [List.map_append]] at HM
 refine fo HF 4 rfl rfl ?_
 refine e_is HF HM [.slice A130 14 c130] (.tuple #[vI 1, vI 13, vI 100]) rfl rfl (quq A130 14 c130 (awX ++ [1]) B _ (hL.mem HM hB) (HM.le hB) (HM.rd (i := 1) rfl) hc130 qvx rfl (by decide) sa7) fun w131 hbw HM a HF => ?_
 refine fp HF 7 5 [(13, vI 100), (12, vI 13), (11, vI 1)] fun a HF => ?_
 refine qb rfl (wp_seq (qa ?_))
 refine fp HF 1 0 [(135, vP gw102 0)] fun a HF => ?_
 refine fo HF 1 rfl rfl ?_
 refine e_cl HF [vP gw102 0] rfl rfl (qhb gw102 9 A118 c118 awX _ (HM.blk (i := 2) rfl) (HM.rd (i := 3) rfl) (by first | decide | omega) (by decide)) ?_
 rintro _ w136 ⟨⟨A136, c136, rfl, ho, hc136⟩, hbw⟩
 refine ⟨_, rfl, ?_⟩
 replace HM := HM.callRow hbw ho
 clear HF; intro a HF
 refine fo HF 2 rfl rfl ?_
 refine e_cl HF [.slice A136 awX.length c136] rfl rfl (qom A136 c136 awX _ (HM.rd (i := 0) rfl) (by decide)) ?_
 rintro _ w137 ⟨g137, A137, c137, rfl, hc137, hm⟩
 refine ⟨_, rfl, ?_⟩
 replace HM := HM.join hm
 clear HF; intro a HF
 refine fp HF 1 3 [(14, vP g137 0)] fun a HF => ?_
 refine qb rfl (wp_seq (qa ?_))
 refine fp HF 1 0 [(139, vP g137 0)] fun a HF => ?_
 refine fo HF 1 rfl rfl ?_
 refine e_cl HF [vP g137 0] rfl rfl (qk4 _ _ g137 0 A137 c137 awX _ (HM.picks [0, 1, 2, 3, 4, 5, 6, 7, 8, 9, 10, 11, 12] (by decide) rfl) (by decide) (by first | exact Nat.le_refl _ | omega | exact Nat.zero_le _) que (by decide) B (hL.mem HM hB) hB (sa8) (p2 := 13) rfl) ?_
 rintro _ w140 ⟨A140, c140, rfl, hc140, HM2⟩
 refine ⟨_, rfl, ?_⟩
 replace HM := HM2
 clear HF; intro a HF
 refine fp HF 3 2 [(142, vI 0), (141, .agg #[vB 2, vB 0, vI 0, vI 7, .slice A140 0 c140])] fun a HF => ?_
 refine fo HF 5 rfl rfl ?_
 refine qr HF HM (cs := #[vB 0, vB 0, vI 0, vI 0, .slice none 0 0]) rfl (by kernel_rfl) rfl (by decide) ?_
 clear HF HM; intro a w15 g15 HF HM
 refine fo HF 6 rfl rfl ?_
 refine e_sa HF HM 0 rfl rfl rfl rfl rfl si_bk rfl rfl (by simp [Value.oneCell']) ?_
 clear HM; intro w12_6 HM
 refine fp HF 1 7 [(16, vI 0)] fun a HF => ?_
 refine qb rfl (wp_seq (qa ?_))
 refine fp HF 1 0 [(144, vP g137 0)] fun a HF => ?_
 refine fo HF 1 rfl rfl ?_
 refine e_cl HF [vP g137 0] rfl rfl (qk4 _ _ g137 13 A137 c137 awX _ (HM.picks [2, 3, 0, 1, 4, 5, 6, 7, 8, 9, 10, 11, 12, 13, 14] (by decide) rfl) (by decide) (by first | exact Nat.le_refl _ | omega | exact Nat.zero_le _) que (by decide) B (hL.mem HM hB) hB (sa9) (p2 := 13) rfl) ?_
 rintro _ w145 ⟨A145, c145, rfl, hc145, HM2⟩
 refine ⟨_, rfl, ?_⟩
 replace HM := HM2
 clear HF; intro a HF
 refine fp HF 3 2 [(147, vI 6), (146, .agg #[vB 0, vB 0, vI 0, vI 0, .slice A145 0 c145])] fun a HF => ?_
 refine fo HF 5 rfl rfl ?_
 refine qr HF HM (cs := #[vB 0, vB 0, vI 0, vI 0, .slice none 0 0]) rfl (by kernel_rfl) rfl (by decide) ?_
 clear HF HM; intro a w17 g17 HF HM
 refine fo HF 6 rfl rfl ?_
 refine e_sa HF HM 0 rfl rfl rfl rfl rfl si_bk rfl rfl (by simp [Value.oneCell']) ?_
 clear HM; intro w13_6 HM
 refine fp HF 1 7 [(18, vI 6)] fun a HF => ?_
 refine qb rfl (wp_seq (qa ?_))
 refine fp HF 16 0 [(163, vP g15 3), (162, .bool true)] fun a HF => ?_
 refine fy HF HM 16 rfl rfl rfl (Yl.qh rfl rfl (by kernel_rfl) (fun _ h => h.cell (i := 4) rfl rfl)) fun a HF => ?_
 refine fp HF 8 17 [(172, vP g137 0), (171, .bool true)] fun a HF => ?_
 refine fo HF 25 rfl rfl ?_
 refine e_is HF HM [vP g137 0] (vI 13) rfl rfl (qk3 g137 13 A137 c137 awX _ (HM.blk (i := 2) rfl)) fun w173 hbw HM a HF => ?_
 refine fp HF 3 26 [(0, .bool true)] fun a HF => ?_
 refine qb rfl ?_
 replace HF := HF.to [(0, .bool true), (15, vP g15 0), (14, vP g137 0), (125, .bool false), (9, vP gw102 0), (100, .bool false)]
 refine wp_ret ?_
 exact ret1 rfl HF (.tmp HF rfl) (⟨rfl, HM.below⟩)
theorem qop (A : Option Addr) (n c : Nat) (l : List Nat) (BB : Nat) (w : World) (hL : LaidX BB w) (hB : BB ≤ w.heap.size) (hr : Rd w w.heap.size 1 A n (l.map B8)) (hc : n ≤ c) (hl : ∀ b ∈ l, b < 256) (hln : l.length = n) (hn : n ≤ 100000000) {bs : List Bk} {er : Nat} (h : readAll l = (bs, er)) :
  Calls Tryd.prog 21 #[.slice A n c] w (qf4 45 41 w er bs) := by
 subst hln
 have h1 := ql9 A c l BB w hL hB hr hc hl hn
 rw [h] at h1
 exact h1
theorem Mem.qw9 {W w : World} {a b c d : List Fact} {t : TypeId} {q : List Hb} (h : Mem W w (a ++ (c ++ (d ++ (hbF t q ++ b))))) : HbRd w q := h.hbRd fun _ hf => List.mem_append_right _ (List.mem_append_right _ (List.mem_append_right _ (List.mem_append_left _ hf)))
theorem qoq (A : Option Addr) (n c : Nat) (q : List Hb) (B : Nat) (w : World) (hL : LaidX B w) (hB : B ≤ w.heap.size) (hr : Rd w w.heap.size 5 A n (q.flatMap hbL)) (hqn : n = q.length) (hQ : HbRd w q) (hok : ∀ h ∈ q, h.b.Ok) (hev : ∀ h ∈ q, h.b.evs.length ≤ 1000000) (hn : q.length ≤ 1000000) {R : List Nat} {er : Nat} (h : zr (q.map Hb.b) = (R, er)) :
  Calls Tryd.prog 20 #[.slice A n c] w (qas w er R) := by
 subst hqn
 exact qdx A c q B w hL hB hr hQ hok hev hn h
theorem qhc (A : Option Addr) (c : Nat) (l : List Sbm) (A2 : Option Addr) (c2 : Nat) (l2 : List Sbm) (B : Nat) (w : World) (hL : LaidX B w) (hB : B ≤ w.heap.size) (hr : Rd w w.heap.size 6 A l.length (l.flatMap sbmL)) (hr2 : Rd w w.heap.size 6 A2 l2.length (l2.flatMap sbmL)) (hc : l.length ≤ c) (hc2 : l2.length ≤ c2) (hi : ∀ x ∈ l, SbmIn w x) (hi2 : ∀ x ∈ l2, SbmIn w x) (hn : l.length ≤ 9223372036854775807) (hn2 : l2.length ≤ 9223372036854775807) :
    Calls Tryd.prog 6 #[.slice A l.length c, .slice A2 l2.length c2] w (Is w (.bool true)) := by
 refine qg (vs := [.slice A l.length c, .slice A2 l2.length c2]) Tryd.func6 rfl rfl (by kernel_rfl) (σ0 := [(0, .slice A l.length c), (1, .slice A2 l2.length c2)]) rfl ?_
 intro a HF
 have HM := Mem.start w
 refine wp_seq (qa ?_)
 refine fp HF 1 0 [(4, .bool false)] fun a HF => ?_
 refine qb rfl ?_
 obtain ⟨m, hm⟩ : ∃ m, m = min l.length 5 := ⟨_, rfl⟩
 obtain ⟨m2, hm2⟩ : ∃ m, m = min l2.length 5 := ⟨_, rfl⟩
 obtain ⟨ba, ha⟩ : ∃ z, z = qcm (l.take m) := ⟨_, rfl⟩
 obtain ⟨bb, hb⟩ : ∃ z, z = qcm (l2.take m2) := ⟨_, rfl⟩
 have hag : ∀ x ∈ ba, x.Ok ∧ x.err = 0 := by rw [ha]; exact qif (qge hi m)
 have hbg : ∀ x ∈ bb, x.Ok ∧ x.err = 0 := by rw [hb]; exact qif (qge hi2 m2)
 have hae : ∀ x ∈ ba, x.evs.length ≤ 1000000 := by rw [ha]; exact qkw (qge hi m)
 have hbe : ∀ x ∈ bb, x.evs.length ≤ 1000000 := by rw [hb]; exact qkw (qge hi2 m2)
 have hal : ba.length = m := by rw [ha, qkx, List.length_take]; omega
 have hbl : bb.length = m2 := by rw [hb, qkx, List.length_take]; omega
 refine wp_seq (wp_seq (qa ?_))
 refine fo HF 0 rfl rfl ?_
 refine e_is HF HM [] (.bool true) rfl rfl (qoo B _ (hL.mem HM hB) (HM.le hB)) fun w24 hbw HM a HF => ?_
 refine fp HF 1 1 [(25, .bool false)] fun a HF => ?_
 refine qb rfl (qe HF rfl (wp_skip (wp_seq (qa ?_))))
 refine fp HF 2 0 [(6, .slice none 0 0), (5, .slice none 0 0)] fun a HF => ?_
 refine qb rfl ?_
 replace HM := HM.nil 41 5
 replace HM : Mem w _ (.row (.slice none 0 0) 0 [] 41 5 :: (hbF 45 [] ++ ([]))) := HM
 refine wp_seq (wp_seq (qa ?_))
 refine fp HF 2 0 [(27, .slice A l.length c), (26, .slice A l.length c)] fun a HF => ?_
 refine fy HF HM 2 rfl rfl rfl (Yl.len rfl rfl (by kernel_rfl)) fun a HF => ?_
 refine fy HF HM 3 rfl rfl rfl (v := vI (if (5 : Int) < (l.length : Int) then 5 else (l.length : Int))) (Yl.min rfl rfl rfl) fun a HF => ?_
 replace HF := HF.sp 29 (vI m) rfl (by rw [hm]; congr 1; split <;> omega)
 refine fy HF HM 4 rfl rfl rfl (v := .slice A m c) (Yl.qap qun (j := m) rfl rfl rfl (by omega)) fun a HF => ?_
 refine fy HF HM 5 rfl rfl rfl (Yl.len rfl rfl (by kernel_rfl)) fun a HF => ?_
 refine fp HF 1 6 [(32, vI 0)] fun a HF => ?_
 refine qb rfl (wp_block ?_)
 refine zq (fun mS aS wS => ∃ (k : Nat) (q : List Hb) (Ao : Option Addr) (co : Nat), (k ≤ m) ∧ (q.map Hb.b = qcm (l.take k)) ∧ (q.length = k) ∧ (q.length ≤ co) ∧ mS = m - k ∧ Fr aS 153 [] [(32, vI k), (31, vI m), (30, .slice A m c), (6, .slice none 0 0), (5, .slice Ao q.length co), (25, .bool false), (4, .bool false), (1, .slice A2 l2.length c2)] ∧ Mem w wS (.row (.slice Ao q.length co) q.length (q.flatMap hbL) 41 5 :: (hbF 45 q ++ ([])))) (m := m - 0) ⟨0, [], none, 0, Nat.zero_le _, rfl, rfl, Nat.le_refl _, rfl, HF.sub (by kernel_rfl), HM.picksT 1 [0] (by decide) (by decide) rfl⟩ ?_
 clear HF HM; rintro mS a w_ ⟨k, q, Ao, co, hk, hq, hql, hqc, rfl, HF, HM⟩
 refine wp_seq (qa ?_)
 refine fp HF 1 0 [(33, .bool (decide ((k : Int) < (m : Int))))] fun a HF => ?_
 refine qb rfl (wp_seq ?_)
 rcases HF.tf 33 rfl with ⟨hb33, HF⟩ | ⟨hb33, HF⟩
 ·
  have hd33 := of_decide_eq_true hb33
  have hk33 : k < m := by omega
  have hix := hi _ (qa3 Sbm.zero (show k < l.length by omega))
  have hts := qie (l := l) (k := k) (by omega)
  refine qf HF rfl (wp_skip (wp_seq (wp_block (wp_seq (qa ?_)))))
  obtain ⟨gA, oA, rfl, _⟩ := hr.qaj (by omega) (by decide)
  refine fy HF HM 0 rfl rfl rfl (v := vP gA (oA + k * 6)) (Yl.ix gA oA k 6 rfl rfl rfl) fun a HF => ?_
  refine fy HF HM 1 rfl rfl rfl (v := .agg ((l.getD k Sbm.zero).x.cells (l.getD k Sbm.zero).A (l.getD k Sbm.zero).c)) (Yl.zg rfl rfl si_sb rfl (fun _ h => (h.old hr).qbv qi9 ((getD_at Sbm.zero (by omega))))) fun a HF => ?_
  refine fo HF 2 rfl rfl ?_
  refine qr HF HM (cs := #[.bool false, vB 0, vW 0, vI 0, vI 0, .slice none 0 0]) rfl (by kernel_rfl) rfl (by decide) ?_
  clear HF HM; intro a w8 g8 HF HM
  refine fo HF 3 rfl rfl ?_
  refine e_sa HF HM 0 rfl rfl rfl rfl rfl si_sb rfl rfl (quk _ _ _) ?_
  clear HM; intro w6_3 HM
  refine qb rfl (qa ?_)
  refine fp HF 1 0 [(36, .slice Ao q.length co)] fun a HF => ?_
  refine fy HF HM 1 rfl rfl rfl (v := .agg ((l.getD k Sbm.zero).x.cells (l.getD k Sbm.zero).A (l.getD k Sbm.zero).c)) (Yl.zg rfl rfl si_sb rfl (fun _ h => qd (h.blk (i := 0) rfl))) fun a HF => ?_
  refine fo HF 2 rfl rfl ?_
  refine e_cl HF [.agg ((l.getD k Sbm.zero).x.cells (l.getD k Sbm.zero).A (l.getD k Sbm.zero).c)] rfl rfl (qk5 (l.getD k Sbm.zero).x hix.ok (l.getD k Sbm.zero).A (l.getD k Sbm.zero).c _ (HM.old hix.rd) hix.hc hix.hm) ?_
  rintro _ w38 ⟨⟨A38, c38, rfl, ho, hc38⟩, hbw⟩
  refine ⟨_, rfl, ?_⟩
  replace HM := HM.callRow hbw ho
  clear HF; intro a HF
  refine fo HF 3 rfl rfl ?_
  refine qan HF HM (vs := [(0, .agg ((l.getD k Sbm.zero).x.made.cells A38 c38))]) (cs := ((l.getD k Sbm.zero).x.made.cells A38 c38)) rfl qbr (by decide) rfl (by kernel_rfl) rfl (by decide) ?_
  clear HF HM; intro a w39 g39 HF HM
  refine fo HF 4 rfl rfl ?_
  refine zh HF HM (i := 3) rfl qbr rfl rfl rfl (news := (hbL (⟨(l.getD k Sbm.zero).x.made, A38, c38⟩ : Hb))) (HM.rdBlk (i := 0) (n := 1) (size := 5) rfl rfl) (qa6 _ _ _) (by omega) (by omega) rfl (by decide) ?_
  clear HF HM; intro a w40 A40 c40 HF HM hc40
  refine fp HF 1 5 [(5, .slice A40 (q.length + 1) c40)] fun a HF => ?_
  refine qb rfl ?_
  have hnA40 : q.length + 1 = (q ++ [(⟨(l.getD k Sbm.zero).x.made, A38, c38⟩ : Hb)]).length := by rw [List.length_append]; rfl
  replace HM := HM.reRow (i := 3) (ys := (q ++ [(⟨(l.getD k Sbm.zero).x.made, A38, c38⟩ : Hb)]).flatMap hbL) rfl hnA40 (by rw [List.flatMap_append, List.flatMap_cons, List.flatMap_nil, List.append_nil])
  rw [hnA40] at hc40
  replace HF := HF.as (t := 5) (u := .slice A40 ((q ++ [(⟨(l.getD k Sbm.zero).x.made, A38, c38⟩ : Hb)]).length) c40) rfl (by rw [hnA40])
  replace HF := HF.as (t := 40) (u := .slice A40 ((q ++ [(⟨(l.getD k Sbm.zero).x.made, A38, c38⟩ : Hb)]).length) c40) rfl (by rw [hnA40])
  replace HM := Mem.toHb (a := [.blk g39 ((l.getD k Sbm.zero).x.made.cells A38 c38) 41, .blk g8 ((l.getD k Sbm.zero).x.cells (l.getD k Sbm.zero).A (l.getD k Sbm.zero).c) 62, .row (.slice A40 ((q ++ [(⟨(l.getD k Sbm.zero).x.made, A38, c38⟩ : Hb)]).length) c40) ((q ++ [(⟨(l.getD k Sbm.zero).x.made, A38, c38⟩ : Hb)]).length) ((q ++ [(⟨(l.getD k Sbm.zero).x.made, A38, c38⟩ : Hb)]).flatMap hbL) 41 5]) (q := q) (b := []) (HM.picksT (fs' := (.row (.slice A38 ((l.getD k Sbm.zero).x.made.evs.length) c38) ((l.getD k Sbm.zero).x.made.evs.length) ((l.getD k Sbm.zero).x.made.evs.flatMap evL) 45 11 :: .blk g39 ((l.getD k Sbm.zero).x.made.cells A38 c38) 41 :: .blk g8 ((l.getD k Sbm.zero).x.cells (l.getD k Sbm.zero).A (l.getD k Sbm.zero).c) 62 :: .row (.slice A40 ((q ++ [(⟨(l.getD k Sbm.zero).x.made, A38, c38⟩ : Hb)]).length) c40) ((q ++ [(⟨(l.getD k Sbm.zero).x.made, A38, c38⟩ : Hb)]).length) ((q ++ [(⟨(l.getD k Sbm.zero).x.made, A38, c38⟩ : Hb)]).flatMap hbL) 41 5 :: (hbF 45 q ++ ([])))) 4 [1, 0, 2, 3] (by decide) (by decide) rfl)
  replace HM : Mem w _ (.blk g39 ((l.getD k Sbm.zero).x.made.cells A38 c38) 41 :: .blk g8 ((l.getD k Sbm.zero).x.cells (l.getD k Sbm.zero).A (l.getD k Sbm.zero).c) 62 :: .row (.slice A40 ((q ++ [(⟨(l.getD k Sbm.zero).x.made, A38, c38⟩ : Hb)]).length) c40) ((q ++ [(⟨(l.getD k Sbm.zero).x.made, A38, c38⟩ : Hb)]).length) ((q ++ [(⟨(l.getD k Sbm.zero).x.made, A38, c38⟩ : Hb)]).flatMap hbL) 41 5 :: (hbF 45 (q ++ [(⟨(l.getD k Sbm.zero).x.made, A38, c38⟩ : Hb)]) ++ ([]))) := HM
  refine qa ?_
  refine fp HF 1 0 [(41, vI (IntKind.i64.wrap ((k : Int) + 1)))] fun a HF => ?_
  replace HF := HF.sp 41 (vI (k + 1 : Nat)) rfl (ql (by omega) (by omega))
  refine fp HF 1 1 [(32, vI (k + 1 : Nat))] fun a HF => ?_
  refine qb rfl ?_
  exact ⟨_, (by omega), k + 1, (q ++ [(⟨(l.getD k Sbm.zero).x.made, A38, c38⟩ : Hb)]), A40, c40, by omega, by rw [hts, List.map_append, hq]; rfl, by rw [List.length_append, hql]; rfl, hc40, rfl, HF.sub (by kernel_rfl), HM.picksT 3 [2] (by decide) (by decide) rfl⟩
 have hd33 := of_decide_eq_false hb33
 have hqa : q.map Hb.b = ba := by rw [hq, ha, show k = m by omega]
 have hqn : q.length = m := by omega
 replace HM := HM.nil 41 5
 replace HM : Mem w _ (.row (.slice none 0 0) 0 [] 41 5 :: .row (.slice Ao q.length co) q.length (q.flatMap hbL) 41 5 :: (hbF 45 [] ++ (hbF 45 q ++ ([])))) := HM
 refine qe HF rfl (wp_exit (wp_seq (wp_seq (qa ?_))))
 refine fp HF 2 0 [(43, .slice A2 l2.length c2), (42, .slice A2 l2.length c2)] fun a HF => ?_
 refine fy HF HM 2 rfl rfl rfl (Yl.len rfl rfl (by kernel_rfl)) fun a HF => ?_
 refine fy HF HM 3 rfl rfl rfl (v := vI (if (5 : Int) < (l2.length : Int) then 5 else (l2.length : Int))) (Yl.min rfl rfl rfl) fun a HF => ?_
 replace HF := HF.sp 45 (vI m2) rfl (by rw [hm2]; congr 1; split <;> omega)
 refine fy HF HM 4 rfl rfl rfl (v := .slice A2 m2 c2) (Yl.qap qun (j := m2) rfl rfl rfl (by omega)) fun a HF => ?_
 refine fy HF HM 5 rfl rfl rfl (Yl.len rfl rfl (by kernel_rfl)) fun a HF => ?_
 refine fp HF 1 6 [(48, vI 0)] fun a HF => ?_
 refine qb rfl (wp_block ?_)
 refine zq (fun mS aS wS => ∃ (k2 : Nat) (q2 : List Hb) (Ap : Option Addr) (cp : Nat), (k2 ≤ m2) ∧ (q2.map Hb.b = qcm (l2.take k2)) ∧ (q2.length = k2) ∧ (q2.length ≤ cp) ∧ mS = m2 - k2 ∧ Fr aS 153 [] [(48, vI k2), (47, vI m2), (46, .slice A2 m2 c2), (33, .bool false), (32, vI k), (31, vI m), (30, .slice A m c), (6, .slice Ap q2.length cp), (5, .slice Ao q.length co), (25, .bool false), (4, .bool false)] ∧ Mem w wS (.row (.slice Ap q2.length cp) q2.length (q2.flatMap hbL) 41 5 :: .row (.slice Ao q.length co) q.length (q.flatMap hbL) 41 5 :: (hbF 45 q2 ++ (hbF 45 q ++ ([]))))) (m := m2 - 0) ⟨0, [], none, 0, Nat.zero_le _, rfl, rfl, Nat.le_refl _, rfl, HF.sub (by kernel_rfl), HM.picksT 2 [0, 1] (by decide) (by decide) rfl⟩ ?_
 clear HF HM; rintro mS a w_ ⟨k2, q2, Ap, cp, hk2, hq2, hq2l, hq2c, rfl, HF, HM⟩
 refine wp_seq (qa ?_)
 refine fp HF 1 0 [(49, .bool (decide ((k2 : Int) < (m2 : Int))))] fun a HF => ?_
 refine qb rfl (wp_seq ?_)
 rcases HF.tf 49 rfl with ⟨hb49, HF⟩ | ⟨hb49, HF⟩
 ·
  have hd49 := of_decide_eq_true hb49
  have hk49 : k2 < m2 := by omega
  have hiy := hi2 _ (qa3 Sbm.zero (show k2 < l2.length by omega))
  have hts2 := qie (l := l2) (k := k2) (by omega)
  refine qf HF rfl (wp_skip (wp_seq (wp_block (wp_seq (qa ?_)))))
  obtain ⟨gA2, oA2, rfl, _⟩ := hr2.qaj (by omega) (by decide)
  refine fy HF HM 0 rfl rfl rfl (v := vP gA2 (oA2 + k2 * 6)) (Yl.ix gA2 oA2 k2 6 rfl rfl rfl) fun a HF => ?_
  refine fy HF HM 1 rfl rfl rfl (v := .agg ((l2.getD k2 Sbm.zero).x.cells (l2.getD k2 Sbm.zero).A (l2.getD k2 Sbm.zero).c)) (Yl.zg rfl rfl si_sb rfl (fun _ h => (h.old hr2).qbv qi9 ((getD_at Sbm.zero (by omega))))) fun a HF => ?_
  refine fo HF 2 rfl rfl ?_
  refine qr HF HM (cs := #[.bool false, vB 0, vW 0, vI 0, vI 0, .slice none 0 0]) rfl (by kernel_rfl) rfl (by decide) ?_
  clear HF HM; intro a w10 g10 HF HM
  refine fo HF 3 rfl rfl ?_
  refine e_sa HF HM 0 rfl rfl rfl rfl rfl si_sb rfl rfl (quk _ _ _) ?_
  clear HM; intro w11_3 HM
  refine qb rfl (qa ?_)
  refine fp HF 1 0 [(52, .slice Ap q2.length cp)] fun a HF => ?_
  refine fy HF HM 1 rfl rfl rfl (v := .agg ((l2.getD k2 Sbm.zero).x.cells (l2.getD k2 Sbm.zero).A (l2.getD k2 Sbm.zero).c)) (Yl.zg rfl rfl si_sb rfl (fun _ h => qd (h.blk (i := 0) rfl))) fun a HF => ?_
  refine fo HF 2 rfl rfl ?_
  refine e_cl HF [.agg ((l2.getD k2 Sbm.zero).x.cells (l2.getD k2 Sbm.zero).A (l2.getD k2 Sbm.zero).c)] rfl rfl (qk5 (l2.getD k2 Sbm.zero).x hiy.ok (l2.getD k2 Sbm.zero).A (l2.getD k2 Sbm.zero).c _ (HM.old hiy.rd) hiy.hc hiy.hm) ?_
  rintro _ w54 ⟨⟨A54, c54, rfl, ho, hc54⟩, hbw⟩
  refine ⟨_, rfl, ?_⟩
  replace HM := HM.callRow hbw ho
  clear HF; intro a HF
  refine fo HF 3 rfl rfl ?_
  refine qan HF HM (vs := [(0, .agg ((l2.getD k2 Sbm.zero).x.made.cells A54 c54))]) (cs := ((l2.getD k2 Sbm.zero).x.made.cells A54 c54)) rfl qbr (by decide) rfl (by kernel_rfl) rfl (by decide) ?_
  clear HF HM; intro a w55 g55 HF HM
  refine fo HF 4 rfl rfl ?_
  refine zh HF HM (i := 3) rfl qbr rfl rfl rfl (news := (hbL (⟨(l2.getD k2 Sbm.zero).x.made, A54, c54⟩ : Hb))) (HM.rdBlk (i := 0) (n := 1) (size := 5) rfl rfl) (qa6 _ _ _) (by omega) (by omega) rfl (by decide) ?_
  clear HF HM; intro a w56 A56 c56 HF HM hc56
  refine fp HF 1 5 [(6, .slice A56 (q2.length + 1) c56)] fun a HF => ?_
  refine qb rfl ?_
  have hnA56 : q2.length + 1 = (q2 ++ [(⟨(l2.getD k2 Sbm.zero).x.made, A54, c54⟩ : Hb)]).length := by rw [List.length_append]; rfl
  replace HM := HM.reRow (i := 3) (ys := (q2 ++ [(⟨(l2.getD k2 Sbm.zero).x.made, A54, c54⟩ : Hb)]).flatMap hbL) rfl hnA56 (by rw [List.flatMap_append, List.flatMap_cons, List.flatMap_nil, List.append_nil])
  rw [hnA56] at hc56
  replace HF := HF.as (t := 6) (u := .slice A56 ((q2 ++ [(⟨(l2.getD k2 Sbm.zero).x.made, A54, c54⟩ : Hb)]).length) c56) rfl (by rw [hnA56])
  replace HF := HF.as (t := 56) (u := .slice A56 ((q2 ++ [(⟨(l2.getD k2 Sbm.zero).x.made, A54, c54⟩ : Hb)]).length) c56) rfl (by rw [hnA56])
  replace HM := Mem.toHb (a := [.blk g55 ((l2.getD k2 Sbm.zero).x.made.cells A54 c54) 41, .blk g10 ((l2.getD k2 Sbm.zero).x.cells (l2.getD k2 Sbm.zero).A (l2.getD k2 Sbm.zero).c) 62, .row (.slice A56 ((q2 ++ [(⟨(l2.getD k2 Sbm.zero).x.made, A54, c54⟩ : Hb)]).length) c56) ((q2 ++ [(⟨(l2.getD k2 Sbm.zero).x.made, A54, c54⟩ : Hb)]).length) ((q2 ++ [(⟨(l2.getD k2 Sbm.zero).x.made, A54, c54⟩ : Hb)]).flatMap hbL) 41 5, .row (.slice Ao q.length co) q.length (q.flatMap hbL) 41 5]) (q := q2) (b := hbF 45 q ++ ([])) (HM.picksT (fs' := (.row (.slice A54 ((l2.getD k2 Sbm.zero).x.made.evs.length) c54) ((l2.getD k2 Sbm.zero).x.made.evs.length) ((l2.getD k2 Sbm.zero).x.made.evs.flatMap evL) 45 11 :: .blk g55 ((l2.getD k2 Sbm.zero).x.made.cells A54 c54) 41 :: .blk g10 ((l2.getD k2 Sbm.zero).x.cells (l2.getD k2 Sbm.zero).A (l2.getD k2 Sbm.zero).c) 62 :: .row (.slice A56 ((q2 ++ [(⟨(l2.getD k2 Sbm.zero).x.made, A54, c54⟩ : Hb)]).length) c56) ((q2 ++ [(⟨(l2.getD k2 Sbm.zero).x.made, A54, c54⟩ : Hb)]).length) ((q2 ++ [(⟨(l2.getD k2 Sbm.zero).x.made, A54, c54⟩ : Hb)]).flatMap hbL) 41 5 :: .row (.slice Ao q.length co) q.length (q.flatMap hbL) 41 5 :: (hbF 45 q2 ++ (hbF 45 q ++ ([]))))) 5 [1, 0, 2, 3, 4] (by decide) (by decide) rfl)
  replace HM : Mem w _ (.blk g55 ((l2.getD k2 Sbm.zero).x.made.cells A54 c54) 41 :: .blk g10 ((l2.getD k2 Sbm.zero).x.cells (l2.getD k2 Sbm.zero).A (l2.getD k2 Sbm.zero).c) 62 :: .row (.slice A56 ((q2 ++ [(⟨(l2.getD k2 Sbm.zero).x.made, A54, c54⟩ : Hb)]).length) c56) ((q2 ++ [(⟨(l2.getD k2 Sbm.zero).x.made, A54, c54⟩ : Hb)]).length) ((q2 ++ [(⟨(l2.getD k2 Sbm.zero).x.made, A54, c54⟩ : Hb)]).flatMap hbL) 41 5 :: .row (.slice Ao q.length co) q.length (q.flatMap hbL) 41 5 :: (hbF 45 (q2 ++ [(⟨(l2.getD k2 Sbm.zero).x.made, A54, c54⟩ : Hb)]) ++ (hbF 45 q ++ ([])))) := HM
  refine qa ?_
  refine fp HF 1 0 [(57, vI (IntKind.i64.wrap ((k2 : Int) + 1)))] fun a HF => ?_
  replace HF := HF.sp 57 (vI (k2 + 1 : Nat)) rfl (ql (by omega) (by omega))
  refine fp HF 1 1 [(48, vI (k2 + 1 : Nat))] fun a HF => ?_
  refine qb rfl ?_
  exact ⟨_, (by omega), k2 + 1, (q2 ++ [(⟨(l2.getD k2 Sbm.zero).x.made, A54, c54⟩ : Hb)]), A56, c56, by omega, by rw [hts2, List.map_append, hq2]; rfl, by rw [List.length_append, hq2l]; rfl, hc56, rfl, HF.sub (by kernel_rfl), HM.picksT 4 [2, 3] (by decide) (by decide) rfl⟩
 have hd49 := of_decide_eq_false hb49
 have hqb : q2.map Hb.b = bb := by rw [hq2, hb, show k2 = m2 by omega]
 have hqn2 : q2.length = m2 := by omega
 have hoa := qe5 ba
 have hob := qe5 bb
 have hab : ∀ x ∈ ba ++ bb, x.Ok ∧ x.err = 0 := fun x hx => by rcases List.mem_append.1 hx with hx | hx; exact hag x hx; exact hbg x hx
 have habl : outsL (ba ++ bb) = outsL ba ++ outsL bb := qrf ba bb
 have hqab : (q ++ q2).map Hb.b = ba ++ bb := by rw [List.map_append, hqa, hqb]
 have hol : (outsL (ba ++ bb)).length ≤ 524288 := by rw [habl]; exact qtn (by omega) (by omega)
 have habt := qvn (fun x hx => (hab x hx).1)
 have hlab : (outsL ba ++ outsL bb).length = (outsL ba).length + (outsL bb).length := List.length_append
 refine qe HF rfl (wp_exit (wp_seq (qa ?_)))
 refine fp HF 1 0 [(59, .slice Ao q.length co)] fun a HF => ?_
 refine fo HF 1 rfl rfl ?_
 refine e_cl HF [.slice Ao q.length co] rfl rfl (qdx (R := outsL ba) (er := 0) Ao co q B _ (hL.mem HM hB) (HM.le hB) (HM.rd (i := 1) rfl) (Mem.qr0 (a := [.row (.slice Ap q2.length cp) q2.length (q2.flatMap hbL) 41 5, .row (.slice Ao q.length co) q.length (q.flatMap hbL) 41 5]) (c := hbF 45 q2) HM) (hb_of hqa fun x hx => (hag x hx).1) (hb_of hqa hae) (by omega) (by rw [hqa]; exact qfu (fun x hx => (hag x hx).2) (by omega))) ?_
 rintro _ w60 ⟨⟨A60, c60, rfl, ho, hc60⟩, hbw⟩
 refine ⟨_, rfl, ?_⟩
 replace HM := HM.callRow hbw ho
 clear HF; intro a HF
 refine fp HF 5 2 [(12, vI 0), (11, .slice A60 ((outsL ba).length) c60)] fun a HF => ?_
 refine qb rfl (wp_seq (qa ?_))
 refine fp HF 1 0 [(64, .slice Ap q2.length cp)] fun a HF => ?_
 refine fo HF 1 rfl rfl ?_
 refine e_cl HF [.slice Ap q2.length cp] rfl rfl (qdx (R := outsL bb) (er := 0) Ap cp q2 B _ (hL.mem HM hB) (HM.le hB) (HM.rd (i := 1) rfl) (Mem.qv1 (a := [.row (.slice A60 ((outsL ba).length) c60) ((outsL ba).length) ((outsL ba).map B8) 5 1, .row (.slice Ap q2.length cp) q2.length (q2.flatMap hbL) 41 5, .row (.slice Ao q.length co) q.length (q.flatMap hbL) 41 5]) HM) (hb_of hqb fun x hx => (hbg x hx).1) (hb_of hqb hbe) (by omega) (by rw [hqb]; exact qfu (fun x hx => (hbg x hx).2) (by omega))) ?_
 rintro _ w65 ⟨⟨A65, c65, rfl, ho, hc65⟩, hbw⟩
 refine ⟨_, rfl, ?_⟩
 replace HM := HM.callRow hbw ho
 clear HF; intro a HF
 refine fp HF 5 2 [(14, vI 0), (13, .slice A65 ((outsL bb).length) c65)] fun a HF => ?_
 refine qb rfl (wp_seq (qa ?_))
 refine fo HF 0 rfl rfl ?_
 refine qf9 HF HM rfl qbr rfl (by decide) ?_
 clear HF HM; intro a w69 g69 HF HM
 refine fp HF 1 1 [(70, .slice Ao q.length co)] fun a HF => ?_
 refine fo HF 2 rfl rfl ?_
 refine zh HF HM (i := 0) rfl qbr rfl rfl rfl (news := (q.flatMap hbL)) (HM.rd (i := 4) rfl) (qja _) (by omega) (by omega) rfl (by decide) ?_
 clear HF HM; intro a w71 A71 c71 HF HM hc71
 rw [show [] ++ (q.flatMap hbL) = q.flatMap hbL from by rw [List.nil_append]] at HM
 refine fp HF 1 3 [(72, .slice Ap q2.length cp)] fun a HF => ?_
 refine fo HF 4 rfl rfl ?_
 refine zh HF HM (i := 0) rfl qbr rfl rfl rfl (news := (q2.flatMap hbL)) (HM.rd (i := 3) rfl) (qja _) (by omega) (by omega) rfl (by decide) ?_
 clear HF HM; intro a w73 A73 c73 HF HM hc73
 rw [show (q.flatMap hbL) ++ (q2.flatMap hbL) = (q ++ q2).flatMap hbL from by rw [List.flatMap_append]] at HM
 refine fo HF 5 rfl rfl ?_
 refine e_cl HF [.slice A73 (0 + q.length + q2.length) c73] rfl rfl (qoq (R := outsL ba ++ outsL bb) (er := 0) A73 (0 + q.length + q2.length) c73 (q ++ q2) B _ (hL.mem HM hB) (HM.le hB) (HM.rd (i := 0) rfl) (by rw [Nat.zero_add, List.length_append]) (qm6 (Mem.qr0 (a := [.row (.slice A73 (0 + q.length + q2.length) c73) (0 + q.length + q2.length) ((q ++ q2).flatMap hbL) 41 5, .row (.slice A65 ((outsL bb).length) c65) ((outsL bb).length) ((outsL bb).map B8) 5 1, .row (.slice A60 ((outsL ba).length) c60) ((outsL ba).length) ((outsL ba).map B8) 5 1, .row (.slice Ap q2.length cp) q2.length (q2.flatMap hbL) 41 5, .row (.slice Ao q.length co) q.length (q.flatMap hbL) 41 5]) (c := hbF 45 q2) HM) (Mem.qv1 (a := [.row (.slice A73 (0 + q.length + q2.length) c73) (0 + q.length + q2.length) ((q ++ q2).flatMap hbL) 41 5, .row (.slice A65 ((outsL bb).length) c65) ((outsL bb).length) ((outsL bb).map B8) 5 1, .row (.slice A60 ((outsL ba).length) c60) ((outsL ba).length) ((outsL ba).map B8) 5 1, .row (.slice Ap q2.length cp) q2.length (q2.flatMap hbL) 41 5, .row (.slice Ao q.length co) q.length (q.flatMap hbL) 41 5]) HM)) (hb_of hqab fun x hx => (hab x hx).1) (hb_of hqab fun x hx => by rcases List.mem_append.1 hx with hx | hx; exact hae x hx; exact hbe x hx) (by rw [List.length_append]; omega) (by rw [hqab, ← habl]; exact qfu (fun x hx => (hab x hx).2) hol)) ?_
 rintro _ w74 ⟨⟨A74, c74, rfl, ho, hc74⟩, hbw⟩
 refine ⟨_, rfl, ?_⟩
 replace HM := HM.callRow hbw ho
 clear HF; intro a HF
 refine fp HF 5 6 [(16, vI 0), (15, .slice A74 ((outsL ba ++ outsL bb).length) c74)] fun a HF => ?_
 refine qb rfl (wp_seq (qa ?_))
 refine fo HF 0 rfl rfl ?_
 refine qf9 HF HM rfl ei_u8 rfl (by decide) ?_
 clear HF HM; intro a w78 g78 HF HM
 refine fp HF 1 1 [(79, .slice A60 ((outsL ba).length) c60)] fun a HF => ?_
 refine fo HF 2 rfl rfl ?_
 refine zh HF HM (i := 0) rfl ei_u8 rfl rfl rfl (news := ((outsL ba).map B8)) (HM.rd (i := 4) rfl) (qd1 _) (by omega) (by omega) rfl (by decide) ?_
 clear HF HM; intro a w80 A80 c80 HF HM hc80
 rw [show [] ++ ((outsL ba).map B8) = (outsL ba).map B8 from by rw [List.nil_append]] at HM
 refine fp HF 1 3 [(81, .slice A65 ((outsL bb).length) c65)] fun a HF => ?_
 refine fo HF 4 rfl rfl ?_
 refine zh HF HM (i := 0) rfl ei_u8 rfl rfl rfl (news := ((outsL bb).map B8)) (HM.rd (i := 3) rfl) (qd1 _) (by omega) (by omega) rfl (by decide) ?_
 clear HF HM; intro a w82 A82 c82 HF HM hc82
 rw [show ((outsL ba).map B8) ++ ((outsL bb).map B8) = (outsL ba ++ outsL bb).map B8 from by rw [List.map_append]] at HM
 refine fo HF 5 rfl rfl ?_
 refine e_cl HF [.slice A82 ((0 + ((outsL ba).length)) + ((outsL bb).length)) c82] rfl rfl (qop (bs := ba ++ bb) (er := 0) A82 ((0 + ((outsL ba).length)) + ((outsL bb).length)) c82 (outsL ba ++ outsL bb) B _ (hL.mem HM hB) (HM.le hB) (HM.rd (i := 0) rfl) hc82 (by rw [← habl]; exact habt) (by rw [Nat.zero_add, List.length_append]) (by omega) (by rw [← habl]; exact qoj (qks hab hol))) ?_
 rintro _ w83 ⟨A3, c3, q3, rfl, hq3, hc3, hm⟩
 have hql3 : (ba ++ bb).length = q3.length := by rw [← hq3, List.length_map]
 have hq3l : q3.length = q.length + q2.length := by rw [← hql3, List.length_append]; omega
 rw [hql3] at hm hc3 ⊢
 refine ⟨_, rfl, ?_⟩
 replace HM := Mem.qw6 (a := [.row (.slice A82 ((0 + ((outsL ba).length)) + ((outsL bb).length)) c82) ((0 + ((outsL ba).length)) + ((outsL bb).length)) ((outsL ba ++ outsL bb).map B8) 5 1, .row (.slice A74 ((outsL ba ++ outsL bb).length) c74) ((outsL ba ++ outsL bb).length) ((outsL ba ++ outsL bb).map B8) 5 1, .row (.slice A73 (0 + q.length + q2.length) c73) (0 + q.length + q2.length) ((q ++ q2).flatMap hbL) 41 5, .row (.slice A65 ((outsL bb).length) c65) ((outsL bb).length) ((outsL bb).map B8) 5 1, .row (.slice A60 ((outsL ba).length) c60) ((outsL ba).length) ((outsL ba).map B8) 5 1, .row (.slice Ap q2.length cp) q2.length (q2.flatMap hbL) 41 5, .row (.slice Ao q.length co) q.length (q.flatMap hbL) 41 5]) (b := hbF 45 q2 ++ (hbF 45 q ++ ([]))) HM hm
 clear HF; intro a HF
 refine fp HF 5 6 [(18, vI 0), (17, .slice A3 q3.length c3)] fun a HF => ?_
 refine qb rfl (wp_seq (qa ?_))
 refine fp HF 1 0 [(87, .slice A74 ((outsL ba ++ outsL bb).length) c74)] fun a HF => ?_
 refine fo HF 1 rfl rfl ?_
 refine e_is HF HM [.slice A74 ((outsL ba ++ outsL bb).length) c74] (.tuple #[vI ((ba ++ bb).length), vI ((outsL (ba ++ bb)).length), vI 0]) rfl rfl (quq (bs := ba ++ bb) (p := (outsL (ba ++ bb)).length) (er := 0) A74 ((outsL ba ++ outsL bb).length) c74 (outsL ba ++ outsL bb) B _ (hL.mem HM hB) (HM.le hB) (HM.rd (i := 2) rfl) hc74 (by rw [← habl]; exact habt) rfl (by omega) (by rw [← habl]; exact qks hab hol)) fun w88 hbw HM a HF => ?_
 refine fp HF 7 2 [(21, vI 0), (20, vI ((outsL (ba ++ bb)).length)), (19, vI ((ba ++ bb).length))] fun a HF => ?_
 refine qb rfl (wp_seq (wp_seq (qa ?_)))
 refine fp HF 12 0 [(103, .slice A74 ((outsL ba ++ outsL bb).length) c74), (102, .bool false)] fun a HF => ?_
 refine fy HF HM 12 rfl rfl rfl (v := .string (bstr (outsL ba ++ outsL bb))) (Yl.str rfl rfl (fun _ h => h.rd (i := 2) rfl)) fun a HF => ?_
 refine fp HF 1 13 [(105, .slice A60 ((outsL ba).length) c60)] fun a HF => ?_
 refine fy HF HM 14 rfl rfl rfl (v := .string (bstr (outsL ba))) (Yl.str rfl rfl (fun _ h => h.rd (i := 5) rfl)) fun a HF => ?_
 refine fp HF 1 15 [(107, .slice A65 ((outsL bb).length) c65)] fun a HF => ?_
 refine fy HF HM 16 rfl rfl rfl (v := .string (bstr (outsL bb))) (Yl.str rfl rfl (fun _ h => h.rd (i := 4) rfl)) fun a HF => ?_
 refine fy HF HM 17 rfl rfl rfl (v := .string ((bstr (outsL ba)) ++ (bstr (outsL bb)))) (Yl.qw8 rfl rfl rfl (by rw [qkk, qkk]; omega)) fun a HF => ?_
 refine fp HF 1 18 [(110, .bool (!(((bstr (outsL ba ++ outsL bb))).toList == (((bstr (outsL ba)) ++ (bstr (outsL bb)))).toList)))] fun a HF => ?_
 replace HF := HF.sp 110 (.bool false) rfl (by rw [qth]; simp)
 refine fp HF 3 19 [(113, .slice A3 q3.length c3), (112, .bool false)] fun a HF => ?_
 refine fy HF HM 22 rfl rfl rfl (Yl.len rfl rfl (by kernel_rfl)) fun a HF => ?_
 refine fp HF 1 23 [(115, .slice Ao q.length co)] fun a HF => ?_
 refine fy HF HM 24 rfl rfl rfl (Yl.len rfl rfl (by kernel_rfl)) fun a HF => ?_
 refine fp HF 1 25 [(117, .slice Ap q2.length cp)] fun a HF => ?_
 refine fy HF HM 26 rfl rfl rfl (Yl.len rfl rfl (by kernel_rfl)) fun a HF => ?_
 refine fp HF 1 27 [(119, vI (IntKind.i64.wrap ((q.length : Int) + (q2.length : Int))))] fun a HF => ?_
 replace HF := HF.sp 119 (vI (q.length + q2.length : Nat)) rfl (ql (by omega) (by omega))
 refine fp HF 1 28 [(120, .bool ((q3.length : Int) != ((q.length + q2.length : Nat) : Int)))] fun a HF => ?_
 replace HF := HF.sp 120 (.bool false) rfl (by rw [hq3l]; simp)
 refine fp HF 4 29 [(124, .slice A3 q3.length c3), (123, vI ((ba ++ bb).length)), (122, .bool false)] fun a HF => ?_
 refine fy HF HM 33 rfl rfl rfl (Yl.len rfl rfl (by kernel_rfl)) fun a HF => ?_
 refine fp HF 1 34 [(126, .bool (((ba ++ bb).length : Int) != (q3.length : Int)))] fun a HF => ?_
 replace HF := HF.sp 126 (.bool false) rfl (by rw [hql3]; simp)
 refine fp HF 4 35 [(130, .slice A74 ((outsL ba ++ outsL bb).length) c74), (129, vI ((outsL (ba ++ bb)).length)), (128, .bool false)] fun a HF => ?_
 refine fy HF HM 39 rfl rfl rfl (Yl.len rfl rfl (by kernel_rfl)) fun a HF => ?_
 refine fp HF 1 40 [(132, .bool (((outsL (ba ++ bb)).length : Int) != (((outsL ba ++ outsL bb).length : Nat) : Int)))] fun a HF => ?_
 replace HF := HF.sp 132 (.bool false) rfl (by rw [habl]; simp)
 refine fp HF 1 41 [(133, .bool false)] fun a HF => ?_
 refine qb rfl ?_
 replace HF := HF.to [(133, .bool false), (17, .slice A3 q3.length c3), (15, .slice A74 ((outsL ba ++ outsL bb).length) c74), (13, .slice A65 ((outsL bb).length) c65), (11, .slice A60 ((outsL ba).length) c60), (49, .bool false), (48, vI k2), (47, vI m2), (46, .slice A2 m2 c2), (33, .bool false), (32, vI k), (31, vI m), (30, .slice A m c), (6, .slice Ap q2.length cp), (5, .slice Ao q.length co), (25, .bool false), (4, .bool false)]
 refine qe HF rfl (wp_skip (wp_seq (wp_seq (qa ?_))))
 refine fo HF 0 rfl rfl ?_
 refine qf9 HF HM rfl qbr rfl (by decide) ?_
 clear HF HM; intro a w134 g134 HF HM
 refine fp HF 1 1 [(135, .slice Ao q.length co)] fun a HF => ?_
 refine fo HF 2 rfl rfl ?_
 refine zh HF HM (i := 0) rfl qbr rfl rfl rfl (news := (q.flatMap hbL)) (HM.rd (i := 8) rfl) (qja _) (by omega) (by omega) rfl (by decide) ?_
 clear HF HM; intro a w136 A136 c136 HF HM hc136
 rw [show [] ++ (q.flatMap hbL) = q.flatMap hbL from by rw [List.nil_append]] at HM
 refine fp HF 1 3 [(137, .slice Ap q2.length cp)] fun a HF => ?_
 refine fo HF 4 rfl rfl ?_
 refine zh HF HM (i := 0) rfl qbr rfl rfl rfl (news := (q2.flatMap hbL)) (HM.rd (i := 7) rfl) (qja _) (by omega) (by omega) rfl (by decide) ?_
 clear HF HM; intro a w138 A138 c138 HF HM hc138
 rw [show (q.flatMap hbL) ++ (q2.flatMap hbL) = (q ++ q2).flatMap hbL from by rw [List.flatMap_append]] at HM
 refine fy HF HM 5 rfl rfl rfl (Yl.len rfl rfl (by kernel_rfl)) fun a HF => ?_
 refine fp HF 1 6 [(140, vI 0)] fun a HF => ?_
 refine qb rfl (wp_block ?_)
 refine zq (fun mS aS wS => ∃ (j : Nat), (j ≤ q.length + q2.length) ∧ mS = q.length + q2.length - j ∧ Fr aS 153 [] [(140, vI j), (139, vI (0 + q.length + q2.length : Nat)), (138, .slice A138 (0 + q.length + q2.length) c138), (133, .bool false), (17, .slice A3 q3.length c3), (15, .slice A74 ((outsL ba ++ outsL bb).length) c74), (13, .slice A65 ((outsL bb).length) c65), (11, .slice A60 ((outsL ba).length) c60), (49, .bool false), (48, vI k2), (47, vI m2), (46, .slice A2 m2 c2), (33, .bool false), (32, vI k), (31, vI m), (30, .slice A m c), (6, .slice Ap q2.length cp), (5, .slice Ao q.length co), (25, .bool false), (4, .bool false)] ∧ Mem w wS (.row (.slice A138 (0 + q.length + q2.length) c138) (0 + q.length + q2.length) ((q ++ q2).flatMap hbL) 41 5 :: .row (.slice A3 q3.length c3) q3.length (q3.flatMap hbL) 41 5 :: .row (.slice A73 (0 + q.length + q2.length) c73) (0 + q.length + q2.length) ((q ++ q2).flatMap hbL) 41 5 :: .row (.slice Ap q2.length cp) q2.length (q2.flatMap hbL) 41 5 :: .row (.slice Ao q.length co) q.length (q.flatMap hbL) 41 5 :: (hbF 45 q3 ++ (hbF 45 q2 ++ (hbF 45 q ++ ([])))))) (m := q.length + q2.length - 0) ⟨0, Nat.zero_le _, rfl, HF.sub (by kernel_rfl), HM.picksT 9 [0, 1, 4, 7, 8] (by decide) (by decide) rfl⟩ ?_
 clear HF HM; rintro mS a w_ ⟨j, hj, rfl, HF, HM⟩
 refine wp_seq (qa ?_)
 refine fp HF 1 0 [(141, .bool (decide ((j : Int) < ((0 + q.length + q2.length : Nat) : Int))))] fun a HF => ?_
 refine qb rfl (wp_seq ?_)
 rcases HF.tf 141 rfl with ⟨hb141, HF⟩ | ⟨hb141, HF⟩
 ·
  have hd141 := of_decide_eq_true hb141
  have hj141 : j < (ba ++ bb).length := by rw [List.length_append]; omega
  have hbx : (q3.getD j Hb.zero).b = (ba ++ bb).getD j Bk.zero := hb_at hq3 hj141
  have hby : ((q ++ q2).getD j Hb.zero).b = (ba ++ bb).getD j Bk.zero := hb_at hqab hj141
  have hxy : (q3.getD j Hb.zero).b = ((q ++ q2).getD j Hb.zero).b := hbx.trans hby.symm
  have hej : (q3.getD j Hb.zero).b.evs.length ≤ 1000000 := by rw [hbx]; rcases List.mem_append.1 (qa3 Bk.zero hj141) with hx | hx; exact hae _ hx; exact hbe _ hx
  refine qf HF rfl (wp_skip (wp_seq (wp_block (wp_seq (qa ?_)))))
  refine fp HF 1 0 [(142, vI j)] fun a HF => ?_
  obtain ⟨gA138, rfl⟩ := qb6 (HM.own (i := 0) rfl) (Nat.lt_of_le_of_lt (Nat.zero_le _) (show j < 0 + q.length + q2.length from by omega))
  refine fy HF HM 1 rfl rfl rfl (v := vP gA138 (j * 5)) (Yl.ix0 gA138 j 5 rfl rfl rfl) fun a HF => ?_
  refine fy HF HM 2 rfl rfl rfl (v := .agg (((q ++ q2).getD j Hb.zero).b.cells ((q ++ q2).getD j Hb.zero).A ((q ++ q2).getD j Hb.zero).c)) (Yl.zg rfl rfl si_bk rfl (fun _ h => h.qk7 qde (i := 0) rfl ((getD_at Hb.zero (by rw [List.length_append]; omega))))) fun a HF => ?_
  refine fo HF 3 rfl rfl ?_
  refine qr HF HM (cs := #[vB 0, vB 0, vI 0, vI 0, .slice none 0 0]) rfl (by kernel_rfl) rfl (by decide) ?_
  clear HF HM; intro a w23 g23 HF HM
  refine fp HF 1 4 [(22, vI j)] fun a HF => ?_
  refine fo HF 5 rfl rfl ?_
  refine e_sa HF HM 0 rfl rfl rfl rfl rfl si_bk rfl rfl (qa6 _ _ _) ?_
  clear HM; intro w23_5 HM
  refine qb rfl (wp_seq ?_)
  refine qqc HM (.blk g23 (((q ++ q2).getD j Hb.zero).b.cells ((q ++ q2).getD j Hb.zero).A ((q ++ q2).getD j Hb.zero).c) 41 :: .row (vS gA138 (0 + q.length + q2.length) c138) (0 + q.length + q2.length) ((q ++ q2).flatMap hbL) 41 5 :: .row (.slice A3 q3.length c3) q3.length (q3.flatMap hbL) 41 5 :: .row (.slice A73 (0 + q.length + q2.length) c73) (0 + q.length + q2.length) ((q ++ q2).flatMap hbL) 41 5 :: .row (.slice Ap q2.length cp) q2.length (q2.flatMap hbL) 41 5 :: .row (.slice Ao q.length co) q.length (q.flatMap hbL) 41 5 :: (hbF 45 q3 ++ (hbF 45 q2 ++ (hbF 45 q ++ ([]))))) 6 [0, 1, 2, 3, 4, 5] [] fun HM HS => ?_
  refine ap HF (fun _ => HS) [0, 1] #[true, true, false, false, false, false, false] [(146, vI j), (145, .slice A3 q3.length c3)] fun a HF => ?_
  obtain ⟨gA3, rfl⟩ := qb6 (HM.own (i := 2) rfl) (Nat.lt_of_le_of_lt (Nat.zero_le _) (show j < q3.length from by omega))
  refine ay HF HS 2 rfl rfl rfl (v := vP gA3 (j * 5)) (Yl.ix0 gA3 j 5 rfl rfl rfl) fun a HF => ?_
  refine ay HF HS 3 rfl rfl rfl (v := .agg ((q3.getD j Hb.zero).b.cells (q3.getD j Hb.zero).A (q3.getD j Hb.zero).c)) (Yl.zg rfl rfl si_bk rfl (fun _ h => h.qk7 qde (i := 2) rfl ((getD_at Hb.zero (by omega))))) fun a HF => ?_
  refine ay HF HS 4 rfl rfl rfl (v := .agg (((q ++ q2).getD j Hb.zero).b.cells ((q ++ q2).getD j Hb.zero).A ((q ++ q2).getD j Hb.zero).c)) (Yl.zg rfl rfl si_bk rfl (fun _ h => qd (h.blk (i := 0) rfl))) fun a HF => ?_
  refine qi [5] (by kernel_rfl) rfl ?_
  refine all_cons ?_ all_nil
  refine qk HF (i := 5) rfl rfl ?_
  refine e_is HF HM [.agg ((q3.getD j Hb.zero).b.cells (q3.getD j Hb.zero).A (q3.getD j Hb.zero).c), .agg (((q ++ q2).getD j Hb.zero).b.cells ((q ++ q2).getD j Hb.zero).A ((q ++ q2).getD j Hb.zero).c)] (.bool (decide ((q3.getD j Hb.zero).b = ((q ++ q2).getD j Hb.zero).b))) rfl rfl (qs3 (q3.getD j Hb.zero).b ((q ++ q2).getD j Hb.zero).b ((q3.getD j Hb.zero).A) (((q ++ q2).getD j Hb.zero).A) (q3.getD j Hb.zero).c ((q ++ q2).getD j Hb.zero).c _ (HbRd.at (Mem.qv1 (a := [.blk g23 (((q ++ q2).getD j Hb.zero).b.cells ((q ++ q2).getD j Hb.zero).A ((q ++ q2).getD j Hb.zero).c) 41, .row (vS gA138 (0 + q.length + q2.length) c138) (0 + q.length + q2.length) ((q ++ q2).flatMap hbL) 41 5, .row (vS gA3 q3.length c3) q3.length (q3.flatMap hbL) 41 5, .row (.slice A73 (0 + q.length + q2.length) c73) (0 + q.length + q2.length) ((q ++ q2).flatMap hbL) 41 5, .row (.slice Ap q2.length cp) q2.length (q2.flatMap hbL) 41 5, .row (.slice Ao q.length co) q.length (q.flatMap hbL) 41 5]) HM) (by omega)) (HbRd.at (qm6 (Mem.qw9 (a := [.blk g23 (((q ++ q2).getD j Hb.zero).b.cells ((q ++ q2).getD j Hb.zero).A ((q ++ q2).getD j Hb.zero).c) 41, .row (vS gA138 (0 + q.length + q2.length) c138) (0 + q.length + q2.length) ((q ++ q2).flatMap hbL) 41 5, .row (vS gA3 q3.length c3) q3.length (q3.flatMap hbL) 41 5, .row (.slice A73 (0 + q.length + q2.length) c73) (0 + q.length + q2.length) ((q ++ q2).flatMap hbL) 41 5, .row (.slice Ap q2.length cp) q2.length (q2.flatMap hbL) 41 5, .row (.slice Ao q.length co) q.length (q.flatMap hbL) 41 5]) HM) (Mem.qr0 (a := [.blk g23 (((q ++ q2).getD j Hb.zero).b.cells ((q ++ q2).getD j Hb.zero).A ((q ++ q2).getD j Hb.zero).c) 41, .row (vS gA138 (0 + q.length + q2.length) c138) (0 + q.length + q2.length) ((q ++ q2).flatMap hbL) 41 5, .row (vS gA3 q3.length c3) q3.length (q3.flatMap hbL) 41 5, .row (.slice A73 (0 + q.length + q2.length) c73) (0 + q.length + q2.length) ((q ++ q2).flatMap hbL) 41 5, .row (.slice Ap q2.length cp) q2.length (q2.flatMap hbL) 41 5, .row (.slice Ao q.length co) q.length (q.flatMap hbL) 41 5]) HM)) (by rw [List.length_append]; omega)) hej) fun w150 hbw HM a HF => ?_
  refine keepS (HM.picksT 6 [0, 1, 2, 3, 4, 5] (by decide) (by decide) rfl) (fun HS => ?_)
  refine qp HF (fun _ => HS) (i := 6) rfl rfl (d := 151) rfl (by decide) (by kernel_rfl) (fun _ _ _ h => h) (v := .bool (!(decide ((q3.getD j Hb.zero).b = ((q ++ q2).getD j Hb.zero).b)))) (fun _ => Yl.pure (by kernel_rfl)) fun a HF => ?_
  replace HF := HF.sp 151 (.bool false) rfl (by rw [decide_eq_true hxy]; rfl)
  refine qn (by kernel_rfl) ?_
  refine qe HF rfl (wp_skip (qa ?_))
  refine fp HF 1 0 [(152, vI (IntKind.i64.wrap ((j : Int) + 1)))] fun a HF => ?_
  replace HF := HF.sp 152 (vI (j + 1 : Nat)) rfl (ql (by omega) (by omega))
  refine fp HF 1 1 [(140, vI (j + 1 : Nat))] fun a HF => ?_
  refine qb rfl ?_
  exact ⟨_, (by omega), j + 1, by omega, rfl, HF.sub (by kernel_rfl), HM.picksT 6 [1, 2, 3, 4, 5] (by decide) (by decide) rfl⟩
 have hd141 := of_decide_eq_false hb141
 refine qe HF rfl (wp_exit (wp_seq (qa ?_)))
 refine fp HF 1 0 [(4, .bool true)] fun a HF => ?_
 refine qb rfl (wp_ret ?_)
 exact ret1 rfl HF (.tmp HF rfl) (⟨rfl, HM.below⟩)
end Go.Proofs.YtfeheccoijnbaaaDoor
