/- Parts. -/
import Derived.Test.YtcajpeiobkcliaaGreatDoorQfCrcP
import Derived.Test.YtcajpeiobkcliaaGreatDoorQfSep17
import Derived.Test.YtcajpeiobkcliaaGreatDoorQfIs
import Derived.Test.YtcajpeiobkcliaaGreatDoorQfVarint
import Derived.Test.YtcajpeiobkcliaaGreatDoorQfSep16
import Derived.Test.YtcajpeiobkcliaaGreatDoorQfSep8
import Derived.Test.YtcajpeiobkcliaaGreatDoorQfVarRead
import Derived.Test.YtcajpeiobkcliaaGreatDoorQfPan
import Derived.Test.YtcajpeiobkcliaaGreatDoorQfSep13
import Derived.Test.YtcajpeiobkcliaaGreatDoorQfBlkH
import Derived.Test.YtcajpeiobkcliaaGreatDoorQfSep11
import Derived.Test.YtcajpeiobkcliaaGreatDoorQfRnd2
import Derived.Test.YtcajpeiobkcliaaGreatDoorQfZ3
set_option linter.all false
set_option maxRecDepth 100000
set_option maxHeartbeats 4000000
namespace Go.Proofs.YtcajpeiobkcliaaGreatDoor
open Go.RowKit
theorem qqw {w : World} {base n m c size : Nat} {e : TypeId} {A : Option Addr} {xs : List Value} (h : w.ownsRow base e size (.slice A n c) n xs) (hm : m ≤ n) : w.ownsRow base e size (.slice A m c) m (xs.take (m * size)) := by
 have hms : m * size ≤ n * size := Nat.mul_le_mul_right _ hm
 refine ⟨by rw [List.length_take, h.1]; omega, ?_⟩
 rcases h.2 with ⟨hv, hn⟩ | ⟨g, cap, cur, hv, hb, hg, h1, h2, h3, h4⟩
 ·injection hv with a1 a2 a3
  subst a1; subst a3; subst hn
  have : m = 0 := by omega
  subst this
  exact .inl ⟨rfl, rfl⟩
 ·injection hv with a1 a2 a3
  subst a1; subst a3
  refine .inr ⟨g, c, cur, rfl, hb, hg, by omega, h2, h3, ?_⟩
  rw [← h4, List.take_take]
  congr 1
  omega
section
variable {W w : World} {fs : List Fact}
theorem Mem.cutRow (h : Mem W w fs) {i n m c size : Nat} {e : TypeId} {A : Option Addr} {xs ys : List Value} (hi : fs[i]? = some (.row (.slice A n c) n xs e size)) (hm : m ≤ n) (hy : xs.take (m * size) = ys) : Mem W w (fs.set i (.row (.slice A m c) m ys e size)) := by
 subst hy
 have hb := h.holds _ (List.mem_of_getElem? hi)
 exact h.turn hi h.below (fun _ _ _ => rfl) (qqw hb hm) (fun g' hg' => .inl (by cases A <;> exact hg'))
end
theorem qbd : EI Tryz.prog 211 3 (.int .i64 0) 1 8 := ⟨by kernel_rfl, by kernel_rfl, rfl, by omega⟩
def PolIs (w : World) (l : List Nat) (r : Ending) (w' : World) : Prop :=
 (∃ A c, r = .returned (.slice A l.length c) ∧ w'.ownsRow w.heap.size 3 1 (.slice A l.length c) l.length (l.map I64v) ∧ l.length ≤ c) ∧ Below w.heap.size w w'
def DivIs (w : World) (A : Option Addr) (c : Nat) (a b : List Nat) (r : Ending) (w' : World) : Prop :=
 (∃ vq X c', r = .returned (.tuple #[vq, .slice X (divR (a.length + 1) a b).length c']) ∧ (a.length < b.length → X = A ∧ c' = c) ∧ (b.length ≤ a.length → w'.ownsRow w.heap.size 3 1 (.slice X (divR (a.length + 1) a b).length c') (divR (a.length + 1) a b).length ((divR (a.length + 1) a b).map I64v) ∧ (divR (a.length + 1) a b).length ≤ c')) ∧ Below w.heap.size w w'
def P01 (l : List Nat) : Prop := ∀ x ∈ l, x < 2
def Tr (l : List Nat) : Prop := 0 < l.length → l.getD (l.length - 1) 0 ≠ 0
theorem qz8 {l : List Nat} (h : P01 l) (k : Nat) : l.getD k 0 < 2 := by
 rw [List.getD_eq_getElem?_getD]
 cases hk : l[k]? with
 | none => simp
 | some x => exact h x (List.mem_of_getElem? hk)
theorem qji {l : List Nat} {k : Nat} (h : 0 < k) (hk : k ≤ l.length) : l.take k = l.take (k - 1) ++ [l.getD (k - 1) 0] := by
 obtain ⟨j, rfl⟩ : ∃ j, k = j + 1 := ⟨k - 1, by omega⟩
 rw [Nat.add_sub_cancel, List.take_succ_eq_append_getElem om, List.getD_eq_getElem?_getD, List.getElem?_eq_getElem om]
 rfl
theorem qo7 {l : List Nat} {k : Nat} (h : 0 < k) (hk : k ≤ l.length) (h0 : l.getD (k - 1) 0 = 0) (ht : trimL (l.take k) = trimL l) : trimL (l.take (k - 1)) = trimL l := by
 rw [← ht, qji h hk, h0, qez]
theorem qgb {l : List Nat} {k : Nat} (hk : k ≤ l.length) (h0 : 0 < k → l.getD (k - 1) 0 ≠ 0) (ht : trimL (l.take k) = trimL l) : trimL l = l.take k := by
 rw [← ht]
 by_cases h : 0 < k
 ·rw [qji h hk, qj4 (h0 h)]
 ·have : k = 0 := by omega
  subst this
  rfl
theorem qms (l : List Nat) : trimL l <+: l := by
 have h := List.dropWhile_suffix (l := l.reverse) (· == 0)
 have := List.reverse_prefix.2 h
 rwa [List.reverse_reverse] at this
theorem qz9 (l : List Nat) : l.take (trimL l).length = trimL l := (List.prefix_iff_eq_take.1 (qms l)).symm
theorem qgc (l : List Nat) : (trimL l).length ≤ l.length := (qms l).length_le
theorem qgd (l : List Nat) : (l.map I64v).take ((trimL l).length * 1) = (trimL l).map I64v := by rw [Nat.mul_one, ← List.map_take, qz9]
theorem q0a {l : List Nat} (h : P01 l) : P01 (trimL l) := fun x hx => h x ((qms l).sublist.mem hx)
theorem q42 : ∀ (n : Nat) (l : List Nat), l.length = n → Tr (trimL l)
 | 0, l, h => by
  rw [List.length_eq_zero_iff] at h
  subst h
  intro h; simp [trimL] at h
 | n + 1, l, h => by
  have e := qji (l := l) (k := l.length) om om
  rw [List.take_length] at e
  by_cases h0 : l.getD (l.length - 1) 0 = 0
  ·rw [e, h0, qez]
   exact q42 n _ (by rw [List.length_take]; omega)
  ·rw [e, qj4 h0, ← e]
   intro _
   exact h0
theorem qqx (l : List Nat) : Tr (trimL l) := q42 _ l rfl
theorem qbm (f : Nat → Nat) (k : Nat) : (List.range (k + 1)).map f = (List.range k).map f ++ [f k] := by rw [List.range_succ, List.map_append]; rfl
def qd6 (p k : Nat) : List Nat := (List.range k).map fun i => p / 2 ^ i % 2
theorem qqy (p k : Nat) : qd6 p (k + 1) = qd6 p k ++ [p / 2 ^ k % 2] := qbm _ _
theorem qk5 (p k : Nat) : (qd6 p k).length = k := by unfold qd6; rw [List.length_map, List.length_range]
def sumUp (a b : List Nat) (s k : Nat) : List Nat := (List.range k).map (sumAt a b s)
theorem qb3 (a b : List Nat) (s k : Nat) : sumUp a b s (k + 1) = sumUp a b s k ++ [sumAt a b s k] := qbm _ _
theorem qo8 (a b : List Nat) (s k : Nat) : (sumUp a b s k).length = k := by unfold sumUp; rw [List.length_map, List.length_range]
theorem q0b (a b : List Nat) (s : Nat) : trimL (sumUp a b s (max a.length (b.length + s))) = sumL a b s := rfl
theorem qs9 {l : List Nat} {k : Nat} (h : l.length ≤ k) : l.getD k 0 = 0 := by rw [List.getD_eq_getElem?_getD, List.getElem?_eq_none h]; rfl
theorem q43 {a b : List Nat} {s k : Nat} (h1 : s ≤ k) (h2 : k - s < b.length) : sumAt a b s k = (a.getD k 0 + b.getD (k - s) 0) % 2 := if_pos ⟨h1, h2⟩
theorem q91 {a b : List Nat} {s k : Nat} (h1 : s ≤ k) (h2 : k - s < b.length) (h3 : a.length ≤ k) : sumAt a b s k = (0 + b.getD (k - s) 0) % 2 := by rw [q43 h1 h2, qs9 h3]
theorem q0c {a b : List Nat} {s k : Nat} (h : ¬ (s ≤ k ∧ k - s < b.length)) : sumAt a b s k = a.getD k 0 := if_neg h
theorem q44 {a b : List Nat} {s k : Nat} (h : ¬ (s ≤ k ∧ k - s < b.length)) (h3 : a.length ≤ k) : sumAt a b s k = 0 := by rw [q0c h, qs9 h3]
theorem q7u {a b : List Nat} (ha : P01 a) (s i : Nat) : sumAt a b s i < 2 := by
 unfold sumAt
 split
 ·omega
 ·exact qz8 ha i
theorem sum01 {a b : List Nat} (ha : P01 a) (s : Nat) : P01 (sumL a b s) := by
 unfold sumL
 apply q0a
 intro x hx
 obtain ⟨i, _, rfl⟩ := List.mem_map.1 hx
 exact q7u ha s i
theorem sumTr (a b : List Nat) (s : Nat) : Tr (sumL a b s) := qqx _
theorem q7v (a b : List Nat) (s : Nat) : (sumL a b s).length ≤ max a.length (b.length + s) := by
 unfold sumL
 refine Nat.le_trans (qgc _) ?_
 rw [List.length_map, List.length_range]
 exact Nat.le_refl _
theorem qhw {a b : List Nat} (ha : P01 a) (hb : P01 b) (hta : Tr a) (htb : Tr b) (h0 : 0 < b.length) (h : b.length ≤ a.length) : (sumL a b (a.length - b.length)).length < a.length := by
 have e : max a.length (b.length + (a.length - b.length)) = (a.length - 1) + 1 := by omega
 have h1 := hta om
 have h2 := htb h0
 have h3 := qz8 ha (a.length - 1)
 have h4 := qz8 hb (b.length - 1)
 unfold sumL
 rw [e, qbm]
 have hz : sumAt a b (a.length - b.length) (a.length - 1) = 0 := by
  unfold sumAt
  rw [if_pos ⟨by omega, by omega⟩, show a.length - 1 - (a.length - b.length) = b.length - 1 by omega]
  omega
 rw [hz, qez]
 refine Nat.lt_of_le_of_lt (qgc _) ?_
 rw [List.length_map, List.length_range]
 omega
theorem qta {b : List Nat} (hb : P01 b) (htb : Tr b) (h0 : 0 < b.length) : ∀ (n : Nat) (a : List Nat), a.length = n → P01 a → Tr a → ∀ f g, a.length < f → a.length < g → divR f a b = divR g a b := by
 intro n
 induction n using Nat.strongRecOn with
 | _ n ih =>
  intro a hn ha hta f g hf hg
  obtain ⟨f, rfl⟩ : ∃ j, f = j + 1 := ⟨f - 1, by omega⟩
  obtain ⟨g, rfl⟩ : ∃ j, g = j + 1 := ⟨g - 1, by omega⟩
  rw [divR, divR]
  split
  ·rename_i h
   have hl := qhw ha hb hta htb h0 h
   exact ih _ om _ rfl (sum01 ha _) (sumTr _ _ _) f g om om
  ·rfl
theorem qtb {a0 a b : List Nat} (hb : P01 b) (htb : Tr b) (h0 : 0 < b.length) (ha : P01 a) (hta : Tr a) (h : b.length ≤ a.length) (he : divR (a.length + 1) a b = divR (a0.length + 1) a0 b) :
  divR ((sumL a b (a.length - b.length)).length + 1) (sumL a b (a.length - b.length)) b = divR (a0.length + 1) a0 b := by
 have hl := qhw ha hb hta htb h0 h
 have e : divR (a.length + 1) a b = divR a.length (sumL a b (a.length - b.length)) b := by rw [divR, if_pos h]
 rw [← he, e]
 exact qta hb htb h0 _ _ rfl (sum01 ha _) (sumTr _ _ _) _ _ om om
theorem qtc {a b : List Nat} (h : ¬ b.length ≤ a.length) : divR (a.length + 1) a b = a := by rw [divR, if_neg h]
theorem qtd (p : Nat) : P01 (qna p) := by
 unfold qna
 apply q0a
 intro x hx
 obtain ⟨i, _, rfl⟩ := List.mem_map.1 hx
 omega
theorem qte (p : Nat) : P01 (bitsOf p) := by
 unfold bitsOf
 apply q0a
 intro x hx
 obtain ⟨i, _, rfl⟩ := List.mem_map.1 hx
 split <;> omega
theorem qtf (p : Nat) : Tr (qna p) := qqx _
theorem qtg (p : Nat) : Tr (bitsOf p) := qqx _
theorem qe6 : genP.length = 33 := by decide +kernel
theorem qmt (p : Nat) : (bitsOf p).length ≤ 40 := by
 unfold bitsOf
 refine Nat.le_trans (qgc _) ?_
 rw [List.length_map, List.length_range]
 exact Nat.le_refl _
theorem q7w {b : List Nat} (h0 : 0 < b.length) (hb : P01 b) (htb : Tr b) : ∀ (n : Nat) (a : List Nat), a.length = n → P01 a → Tr a → (divR (a.length + 1) a b).length < b.length := by
 intro n
 induction n using Nat.strongRecOn with
 | _ n ih =>
  intro a hn ha hta
  by_cases h : b.length ≤ a.length
  ·have hl := qhw ha hb hta htb h0 h
   have hs := qtb hb htb h0 ha hta h rfl
   rw [← hs]
   exact ih _ om _ rfl (sum01 ha _) (sumTr _ _ _)
  ·rw [qtc h]; omega
def linR (y : Nat) : List Nat := divR ((bitsOf y).length + 1) (bitsOf y) genP
theorem qth (y : Nat) : (linR y).length ≤ 32 := by
 have h := q7w (b := genP) (by rw [qe6]; decide) (qtd _) (qtf _) _ (bitsOf y) rfl (qte _) (qtg _)
 rw [qe6] at h
 exact Nat.le_of_lt_succ h
theorem q0d (y : Nat) : qwk (linR y) = qam y := by
 unfold qam linR
 have := qmt y
 rw [qta (b := genP) (qtd _) (qtf _) (by rw [qe6]; decide) _ (bitsOf y) rfl (qte _) (qtg _) ((bitsOf y).length + 1) 41 om om]
def remUp (r : List Nat) (k : Nat) : Nat := ((List.range k).map fun k => if r.getD k 0 = 1 then 2 ^ (31 - k) else 0).sum
theorem qel (r : List Nat) (k : Nat) : remUp r (k + 1) = remUp r k + if r.getD k 0 = 1 then 2 ^ (31 - k) else 0 := by
 unfold remUp
 rw [qbm, List.sum_append]
 simp
theorem qti (r : List Nat) : ∀ k, k ≤ 32 → remUp r k + 2 ^ (32 - k) ≤ 4294967296
 | 0, _ => by show 0 + 2 ^ 32 ≤ _; decide
 | k + 1, h => by
  have ih := qti r k om
  rw [qel]
  have e1 : (2 : Nat) ^ (32 - k) = 2 ^ (32 - (k + 1)) * 2 := by rw [show 32 - k = (32 - (k + 1)) + 1 by omega, Nat.pow_succ]
  have e2 : (2 : Nat) ^ (31 - k) = 2 ^ (32 - (k + 1)) := by rw [show 31 - k = 32 - (k + 1) by omega]
  split <;> omega
theorem qo9 (r : List Nat) : remUp r r.length = qwk r := rfl
def qbs (y k : Nat) : List Nat := (List.range 40).map fun i => if 40 - k ≤ i then y / 2 ^ (39 - i) % 2 else 0
theorem qay (y k : Nat) : (qbs y k).length = 40 := by unfold qbs; rw [List.length_map, List.length_range]
theorem qg1 (y k : Nat) {i : Nat} (h : i < 40) : (qbs y k)[i]? = some (if 40 - k ≤ i then y / 2 ^ (39 - i) % 2 else 0) := by
 unfold qbs
 rw [List.getElem?_map, List.getElem?_range h]
 rfl
theorem qqz (y : Nat) : qbs y 0 = List.replicate 40 0 := by
 apply List.ext_getElem?
 intro i
 by_cases h : i < 40
 ·rw [qg1 y 0 h, if_neg om, List.getElem?_replicate, if_pos h]
 ·rw [List.getElem?_eq_none (by rw [qay]; omega), List.getElem?_eq_none (by rw [List.length_replicate]; omega)]
theorem qq0 {y k : Nat} (hk : k < 8) : (qbs y k).set (39 - k) (y / 2 ^ k % 2) = qbs y (k + 1) := by
 apply List.ext_getElem?
 intro i
 by_cases h : i < 40
 ·rw [List.getElem?_set, qg1 y (k + 1) h]
  by_cases hi : 39 - k = i
  ·rw [if_pos hi, if_pos (by rw [qay]; omega), if_pos om, show 39 - i = k by omega]
  ·rw [if_neg hi, qg1 y k h]
   by_cases h2 : 40 - k ≤ i
   ·rw [if_pos h2, if_pos om]
   ·rw [if_neg h2, if_neg om]
 ·rw [List.getElem?_eq_none (by rw [List.length_set, qay]; omega), List.getElem?_eq_none (by rw [qay]; omega)]
theorem qk6 (y : Nat) : trimL (qbs y 8) = bitsOf y := rfl
theorem pow31 (k : Nat) : 1 * 2 ^ (31 - k) ≤ 4294967295 := by
 have : (2 : Nat) ^ (31 - k) ≤ 2 ^ 31 := Nat.pow_le_pow_right de om
 omega
theorem q7x (r : List Nat) {k : Nat} (h : k < 32) : remUp r k + 1 * 2 ^ (31 - k) ≤ 4294967295 := by
 have h1 := qti r k om
 have e1 : (2 : Nat) ^ (32 - k) = 2 ^ (31 - k) * 2 := by rw [show 32 - k = (31 - k) + 1 by omega, Nat.pow_succ]
 have : 0 < (2 : Nat) ^ (31 - k) := Nat.pow_pos de
 omega
theorem q0e : linR 0 = [] := by decide +kernel
theorem q32 : ∀ y, y < 256 → y ≠ 0 → 33 ≤ (bitsOf y).length := by decide +kernel
theorem qtj (A : Option Addr) (n c : Nat) (l : List Nat) (w : World) (hr : Rd w w.heap.size 1 A n (l.map I64v)) (hln : l.length = n) (hn : n ≤ 140737488355328) (hc : n ≤ c) :
    Calls Tryz.prog 164 #[.slice A n c] w (Is w (.slice A (trimL l).length c)) := by
 refine (JN1 Tryz.func164 21) ?_
 refine (JP∘Jp 1∘Jj∘JQ∘JB) fun a Z I => ?_
 refine qe (fun mS aS wS => ∃ (k : Nat), (k ≤ n) ∧ (trimL (l.take k) = trimL l) ∧ mS = 0 + k ∧ Fr aS 21 [] [(2, vN), (0, .slice A k c)] ∧ Mem w wS []) (m := 0 + n) ⟨n, Nat.le_refl _, by rw [List.take_of_length_le om], rfl, Z.sub kr, I.pk []⟩ ?_
 clear Z I; rintro mS a w_ ⟨k, hk, ht, rfl, Z, I⟩
 refine Jb Z I ((JQ∘JP∘Jp 1∘Jl∘Jp 2) (Ju (fun hb6 => ?_) fun hb6 => ?_))
 ·
  intro a Z I
  have hd6 := of_decide_eq_true hb6
  have hk0 : 0 < k := by omega
  revert I; revert a; repeat (first | clear Z | clear I)
  intro a Z I
  obtain ⟨gA, oA, rfl, _⟩ := hr.qu (Nat.lt_of_le_of_lt (Nat.zero_le _) (show 0 < n from by omega)) de
  refine Jb Z I ((Jp 2∘Jl∘JsK 1∘Jy (h:=by exact Yl.ix gA oA (k - 1) 1 rfl rfl rfl)∘Jy (h:=by exact Yl.o1 hr (k - 1) 0 (by first | omega | (simp; omega)) rfl rfl)∘Jp 2∘Jd6∘Jj) (Je (fun hd14 => ?_) fun hd14 => ?_))
  ·
   refine (JT∘JS'∘JB∘JR∘Jp 2∘Jl∘JsK 1∘Jy (h:=by exact Yl.qan qbd (j := k - 1) rfl rfl rfl om)∘Jp 1∘Jd5∘Jq) fun a Z I => ?_
   exact ⟨_, om, (k - 1), by omega, qo7 om om om ht, rfl, Z.sub kr, I.pk []⟩
  exact (JF∘JX∘JG∘JP∘Jp 2∘Jd1∘Jj∘JZ∘Jz1) fun I => by exact ⟨by rw [qgb (k := k) om (fun _ => by omega) ht, List.length_take, Nat.min_eq_left om], I.below⟩
 intro a Z I
 have hd6 := of_decide_eq_false hb6
 exact Jb Z I ((Jv 8 [(14, .bool false)]∘Jd4∘Jj∘JF∘JX∘JG∘JP∘Jp 2∘Jd1∘Jj∘JZ∘Jz1) fun I => by exact ⟨by rw [qgb (k := k) om (fun _ => by omega) ht, List.length_take, Nat.min_eq_left om], I.below⟩)
theorem q0f (p : Nat) (hp : p < 18446744073709551616) (w : World) :
    Calls Tryz.prog 160 #[vQ p] w (PolIs w (qna p)) := by
 refine (JN1 Tryz.func160 19) ?_
 refine (JP∘Jp 1∘Jr∘Jp 1∘Jq) fun a Z I => ?_
 replace I := I.nil 3 1
 refine Jb Z I ((JG∘JQ∘JP∘Jp 1∘Jj∘JB) fun a Z I => ?_)
 refine qe (fun mS aS wS => ∃ (k : Nat) (Ak : Option Addr) (ck : Nat), (k ≤ 64) ∧ (k ≤ ck) ∧ mS = 64 - k ∧ Fr aS 19 [] [(4, vI k), (3, .slice Ak k ck), (2, vN), (0, vQ p)] ∧ Mem w wS [.row (.slice Ak k ck) k ((qd6 p k).map I64v) 3 1]) (m := 64 - 0) ⟨0, none, 0, by omega, Nat.le_refl _, rfl, Z.sub kr, I.pk [0]⟩ ?_
 clear Z I; rintro mS a w_ ⟨k, Ak, ck, hk, hck, rfl, Z, I⟩
 refine Jb Z I ((JQ∘JP∘Jp 2∘Jd1∘Jj) (Ju (fun hb6 => ?_) fun hb6 => ?_))
 ·
  intro a Z I
  have hd6 := of_decide_eq_true hb6
  refine Jb Z I ((JT∘JS'∘JQ∘JB∘JR∘Jp 3∘Jy (v := vQ (p / 2 ^ k : Nat)) (h:=by exact Yl.shrN (m := p) (n := k) rfl rfl rfl (by show _ ≤ 64; omega))∘Jp 1∘Jo (vQ ((p / 2 ^ k) % 2 : Nat)) (by exact q8 .u64 _ 2)∘Jw .i64∘JU qbd #[vI ((p / 2 ^ k) % 2 : Nat)]) fun w15 g15 => (JD [I64v ((p / 2 ^ k) % 2)] 1 (fun _ _ => O1') qbd (hr:=by exact fun I => I.rdBlk (i := 0) (n := 1) (size := 1) rfl rfl) (h1:=by simp [Value.oneCell', I64v])) fun w16 A16 c16 hc16 => (Jp 1∘Jd6∘Jq) fun a Z I => ?_)
  have hnA16 : k + 1 = k + 1 := rfl
  replace I := I.reRow (i := 1) (ys := (qd6 p (k + 1)).map I64v) rfl hnA16 (by rw [qqy]; simp)
  rw [hnA16] at hc16
  replace Z := Z.sp 3 (.slice A16 (k + 1) c16) rfl (by rw [hnA16])
  refine Jb Z I ((JG∘JR∘Jp 1∘JaK 1∘Jp 1∘Jd2∘Jq) fun a Z I => ?_)
  exact ⟨_, om, k + 1, A16, c16, by omega, hc16, rfl, Z.sub kr, I.pk [1]⟩
 intro a Z I
 have hd6 := of_decide_eq_false hb6
 revert I; revert a; repeat (first | clear Z | clear I)
 intro a Z I
 obtain rfl : k = 64 := by omega
 refine Jb Z I ((JF∘JX∘JG∘JP∘Jp 1∘JI (h:=by exact fun I => qtj _ _ _ (qd6 p 64) _ (I.rd (i := 0) rfl) (qk5 p 64) om om)) fun w18 hbw => fun a Z I => ?_)
 have htl18 := qgc (qd6 p 64)
 have hle18 : (trimL (qd6 p 64)).length ≤ 64 := by rw [qk5 p 64] at htl18; exact htl18
 replace I := I.cutRow (i := 0) rfl hle18 (qgd (qd6 p 64))
 exact Jb Z I ((Jp 1∘Jd2∘Jj∘JZ∘Jz1) fun I => by exact ⟨⟨_, _, rfl, I.own (i := 0) rfl, by show (trimL (qd6 p 64)).length ≤ _; omega⟩, I.below⟩)
theorem qk7 (A A2 : Option Addr) (c c2 : Nat) (p q : List Nat) (s : Nat) (w : World) (h1 : P01 p) (h2 : P01 q) (hr : Rd w w.heap.size 1 A p.length (p.map I64v)) (hr2 : Rd w w.heap.size 1 A2 q.length (q.map I64v)) (hp : p.length ≤ 1000000) (hq : q.length + s ≤ 1000000) :
    Calls Tryz.prog 163 #[.slice A p.length c, .slice A2 q.length c2, vI s] w (PolIs w (sumL p q s)) := by
 refine (JN3 Tryz.func163 58) ?_
 refine (JP∘Jp 1∘Jr∘Jp 1∘Jq) fun a Z I => ?_
 replace I := I.nil 3 1
 refine Jb Z I ((JG∘JQ∘JP∘Jp 1∘Jj∘JB) fun a Z I => ?_)
 refine qe (fun mS aS wS => ∃ (k : Nat) (Ak : Option Addr) (ck : Nat), (k ≤ (max p.length (q.length + s))) ∧ (k ≤ ck) ∧ mS = (max p.length (q.length + s)) - k ∧ Fr aS 58 [] [(8, vI k), (7, .slice Ak k ck), (6, vN), (0, .slice A p.length c), (1, .slice A2 q.length c2), (2, vI s)] ∧ Mem w wS [.row (.slice Ak k ck) k ((sumUp p q s k).map I64v) 3 1]) (m := (max p.length (q.length + s)) - 0) ⟨0, none, 0, Nat.zero_le _, Nat.le_refl _, rfl, Z.sub kr, I.pk [0]⟩ ?_
 clear Z I; rintro mS a w_ ⟨k, Ak, ck, hk, hck, rfl, Z, I⟩
 refine Jb Z I ((JQ∘JP∘Jp 2∘Jl∘Jp 2) (Ji (fun hd14 => ?_) fun hd14 => ?_))
 ·
  refine (Jp 7∘Jd6∘Jj∘JT∘JS'∘JQ∘JB∘JP∘Jp 1∘Jj∘JQ∘JP∘Jp 2∘Jl∘Jp 1∘Jd3∘Jj) (Ju (fun hb27 => ?_) fun hb27 => ?_)
  ·
   intro a Z I
   have hd27 := of_decide_eq_true hb27
   refine Jb Z I ((JT∘JR∘Jp 2) ?_)
   repeat (first | clear Z | clear I)
   intro a Z I
   obtain ⟨gA, oA, rfl, _⟩ := hr.qu (Nat.lt_of_le_of_lt (Nat.zero_le _) (show k < p.length from by omega)) de
   refine Jb Z I ((Jy (h:=by exact Yl.ix gA oA k 1 rfl rfl rfl)∘JH (getD_lt h1 (k := k) (by first | omega | (simp; omega)))) fun hx1 => (Jy (h:=by exact Yl.o1 hr k 0 (by first | omega | (simp; omega)) rfl rfl)∘Jp 1∘Jd4∘Jj∘JQ∘JP∘Jp 4) (Ji (fun hd35 => ?_) fun hd35 => ?_))
   ·
    refine (Jp 2∘Js∘Jp 1∘Jl∘Jp 2∘Jd6∘Jj) (Ji (fun hd42 => ?_) fun hd42 => ?_)
    ·
     refine (JT∘JR∘Jp 4∘Js) ?_
     repeat (first | clear Z | clear I)
     intro a Z I
     obtain ⟨gA2, oA2, rfl, _⟩ := hr2.qu (Nat.lt_of_le_of_lt (Nat.zero_le _) (show k - s < q.length from by omega)) de
     refine Jb Z I ((Jy (h:=by exact Yl.ix gA2 oA2 (k - s) 1 rfl rfl rfl)∘JH (getD_lt h2 (k := (k - s)) (by first | omega | (simp; omega)))) fun hx2 => (Jy (h:=by exact Yl.o1 hr2 (k - s) 0 (by first | omega | (simp; omega)) rfl rfl)∘Ja∘Jp 1∘Jo (vI (((p.getD k 0) + (q.getD (k - s) 0)) % 2 : Nat)) (by exact q8 .i64 _ 2)∘Jp 1∘Jd6∘Jj∘JR∘Jp 2∘JU qbd #[vI (((p.getD k 0) + (q.getD (k - s) 0)) % 2 : Nat)]) fun w54 g54 => (JD [I64v (((p.getD k 0) + (q.getD (k - s) 0)) % 2)] 1 (fun _ _ => O1') qbd (hr:=by exact fun I => I.rdBlk (i := 0) (n := 1) (size := 1) rfl rfl) (h1:=by simp [Value.oneCell', I64v])) fun w55 A55 c55 hc55 => (Jp 1∘Jd4∘Jq) fun a Z I => ?_)
     have hnA55 : k + 1 = k + 1 := rfl
     replace I := I.reRow (i := 1) (ys := (sumUp p q s (k + 1)).map I64v) rfl hnA55 (by rw [qb3, q43 om om]; simp)
     rw [hnA55] at hc55
     replace Z := Z.sp 7 (.slice A55 (k + 1) c55) rfl (by rw [hnA55])
     refine Jb Z I ((JG∘JR∘Jp 1∘JaK 1∘Jp 1∘Jd2∘Jq) fun a Z I => ?_)
     exact ⟨_, om, k + 1, A55, c55, by omega, hc55, rfl, Z.sub kr, I.pk [1]⟩
    refine (JF∘JS'∘JR∘Jp 2∘JU qbd #[vI (p.getD k 0)]) fun w54 g54 => (JD [I64v (p.getD k 0)] 1 (fun _ _ => O1') qbd (hr:=by exact fun I => I.rdBlk (i := 0) (n := 1) (size := 1) rfl rfl) (h1:=by simp [Value.oneCell', I64v])) fun w55 A55 c55 hc55 => (Jp 1∘Jd4∘Jq) fun a Z I => ?_
    have hnA55 : k + 1 = k + 1 := rfl
    replace I := I.reRow (i := 1) (ys := (sumUp p q s (k + 1)).map I64v) rfl hnA55 (by rw [qb3, q0c om]; simp)
    rw [hnA55] at hc55
    replace Z := Z.sp 7 (.slice A55 (k + 1) c55) rfl (by rw [hnA55])
    refine Jb Z I ((JG∘JR∘Jp 1∘JaK 1∘Jp 1∘Jd2∘Jq) fun a Z I => ?_)
    exact ⟨_, om, k + 1, A55, c55, by omega, hc55, rfl, Z.sub kr, I.pk [1]⟩
   refine (Jp 7∘Jd6∘Jj∘JF∘JS'∘JR∘Jp 2∘JU qbd #[vI (p.getD k 0)]) fun w54 g54 => (JD [I64v (p.getD k 0)] 1 (fun _ _ => O1') qbd (hr:=by exact fun I => I.rdBlk (i := 0) (n := 1) (size := 1) rfl rfl) (h1:=by simp [Value.oneCell', I64v])) fun w55 A55 c55 hc55 => (Jp 1∘Jd4∘Jq) fun a Z I => ?_
   have hnA55 : k + 1 = k + 1 := rfl
   replace I := I.reRow (i := 1) (ys := (sumUp p q s (k + 1)).map I64v) rfl hnA55 (by rw [qb3, q0c om]; simp)
   rw [hnA55] at hc55
   replace Z := Z.sp 7 (.slice A55 (k + 1) c55) rfl (by rw [hnA55])
   refine Jb Z I ((JG∘JR∘Jp 1∘JaK 1∘Jp 1∘Jd2∘Jq) fun a Z I => ?_)
   exact ⟨_, om, k + 1, A55, c55, by omega, hc55, rfl, Z.sub kr, I.pk [1]⟩
  intro a Z I
  have hd27 := of_decide_eq_false hb27
  omega
 refine (Jp 2∘Jl∘Jp 1∘Ja∘Jp 2∘Jd6∘Jj) (Ju (fun hb21 => ?_) fun hb21 => ?_)
 ·
  intro a Z I
  have hd21 := of_decide_eq_true hb21
  refine Jb Z I ((JT∘JS'∘JQ∘JB∘JP∘Jp 1∘Jj∘JQ∘JP∘Jp 2∘Jl∘Jp 1∘Jd3∘Jj) (Ju (fun hb27 => ?_) fun hb27 => ?_))
  ·
   intro a Z I
   have hd27 := of_decide_eq_true hb27
   omega
  intro a Z I
  have hd27 := of_decide_eq_false hb27
  refine Jb Z I ((JF∘JS'∘JQ∘JP∘Jp 4) (Ji (fun hd35 => ?_) fun hd35 => ?_))
  ·
   refine (Jp 2∘Js∘Jp 1∘Jl∘Jp 2∘Jd6∘Jj) (Ji (fun hd42 => ?_) fun hd42 => ?_)
   ·
    refine (JT∘JR∘Jp 4∘Js) ?_
    repeat (first | clear Z | clear I)
    intro a Z I
    obtain ⟨gA2, oA2, rfl, _⟩ := hr2.qu (Nat.lt_of_le_of_lt (Nat.zero_le _) (show k - s < q.length from by omega)) de
    refine Jb Z I ((Jy (h:=by exact Yl.ix gA2 oA2 (k - s) 1 rfl rfl rfl)∘JH (getD_lt h2 (k := (k - s)) (by first | omega | (simp; omega)))) fun hx3 => (Jy (h:=by exact Yl.o1 hr2 (k - s) 0 (by first | omega | (simp; omega)) rfl rfl)∘Jp 1∘Jo (vI (0 + (q.getD (k - s) 0) : Nat)) (by exact ze om om)∘Jp 1∘Jo (vI ((0 + (q.getD (k - s) 0)) % 2 : Nat)) (by exact q8 .i64 _ 2)∘Jp 1∘Jd6∘Jj∘JR∘Jp 2∘JU qbd #[vI ((0 + (q.getD (k - s) 0)) % 2 : Nat)]) fun w54 g54 => (JD [I64v ((0 + (q.getD (k - s) 0)) % 2)] 1 (fun _ _ => O1') qbd (hr:=by exact fun I => I.rdBlk (i := 0) (n := 1) (size := 1) rfl rfl) (h1:=by simp [Value.oneCell', I64v])) fun w55 A55 c55 hc55 => (Jp 1∘Jd4∘Jq) fun a Z I => ?_)
    have hnA55 : k + 1 = k + 1 := rfl
    replace I := I.reRow (i := 1) (ys := (sumUp p q s (k + 1)).map I64v) rfl hnA55 (by rw [qb3, q91 om om om]; simp)
    rw [hnA55] at hc55
    replace Z := Z.sp 7 (.slice A55 (k + 1) c55) rfl (by rw [hnA55])
    refine Jb Z I ((JG∘JR∘Jp 1∘JaK 1∘Jp 1∘Jd2∘Jq) fun a Z I => ?_)
    exact ⟨_, om, k + 1, A55, c55, by omega, hc55, rfl, Z.sub kr, I.pk [1]⟩
   refine (JF∘JS'∘JR∘Jp 2∘JU qbd #[vI 0]) fun w54 g54 => (JD [I64v 0] 1 (fun _ _ => O1') qbd (hr:=by exact fun I => I.rdBlk (i := 0) (n := 1) (size := 1) rfl rfl) (h1:=by simp [Value.oneCell', I64v])) fun w55 A55 c55 hc55 => (Jp 1∘Jd4∘Jq) fun a Z I => ?_
   have hnA55 : k + 1 = k + 1 := rfl
   replace I := I.reRow (i := 1) (ys := (sumUp p q s (k + 1)).map I64v) rfl hnA55 (by rw [qb3, q44 om om]; simp)
   rw [hnA55] at hc55
   replace Z := Z.sp 7 (.slice A55 (k + 1) c55) rfl (by rw [hnA55])
   refine Jb Z I ((JG∘JR∘Jp 1∘JaK 1∘Jp 1∘Jd2∘Jq) fun a Z I => ?_)
   exact ⟨_, om, k + 1, A55, c55, by omega, hc55, rfl, Z.sub kr, I.pk [1]⟩
  refine (Jp 7∘Jd6∘Jj∘JF∘JS'∘JR∘Jp 2∘JU qbd #[vI 0]) fun w54 g54 => (JD [I64v 0] 1 (fun _ _ => O1') qbd (hr:=by exact fun I => I.rdBlk (i := 0) (n := 1) (size := 1) rfl rfl) (h1:=by simp [Value.oneCell', I64v])) fun w55 A55 c55 hc55 => (Jp 1∘Jd4∘Jq) fun a Z I => ?_
  have hnA55 : k + 1 = k + 1 := rfl
  replace I := I.reRow (i := 1) (ys := (sumUp p q s (k + 1)).map I64v) rfl hnA55 (by rw [qb3, q44 om om]; simp)
  rw [hnA55] at hc55
  replace Z := Z.sp 7 (.slice A55 (k + 1) c55) rfl (by rw [hnA55])
  refine Jb Z I ((JG∘JR∘Jp 1∘JaK 1∘Jp 1∘Jd2∘Jq) fun a Z I => ?_)
  exact ⟨_, om, k + 1, A55, c55, by omega, hc55, rfl, Z.sub kr, I.pk [1]⟩
 intro a Z I
 have hd21 := of_decide_eq_false hb21
 have hkM : k = (max p.length (q.length + s)) := by omega
 refine Jb Z I ((JF∘JX∘JG∘JP∘Jp 1∘JI (h:=by exact fun I => qtj _ _ _ (sumUp p q s k) _ (I.rd (i := 0) rfl) (qo8 p q s k) om om)) fun w57 hbw => fun a Z I => ?_)
 have htl57 := qgc (sumUp p q s k)
 have hle57 : (trimL (sumUp p q s k)).length ≤ k := by rw [qo8 p q s k] at htl57; exact htl57
 replace I := I.cutRow (i := 0) rfl hle57 (qgd (sumUp p q s k))
 exact Jb Z I ((Jp 1∘Jd2∘Jj∘JZ∘Jz1) fun I => by rw [← q0b p q s, ← hkM]; exact ⟨⟨_, _, rfl, I.own (i := 0) rfl, by omega⟩, I.below⟩)
theorem one01 : P01 [1] := by intro x hx; simp at hx; omega
theorem q33 {w w' : World} {A X Xr : Option Addr} {c ca cr : Nat} {p q al xr : List Nat} {vq : Value} (hR : divR (p.length + 1) p q = al) (hX : (X = A ∧ ca = c ∧ al = p) ∨ (X = Xr ∧ ca = cr ∧ al = xr ∧ q.length ≤ p.length))
  (hO : w'.ownsRow w.heap.size 3 1 (.slice Xr xr.length cr) xr.length (xr.map I64v)) (hcr : xr.length ≤ cr) (hless : al.length < q.length) (hb : Below w.heap.size w w') :
  DivIs w A c p q (.returned (.tuple #[vq, .slice X al.length ca])) w' := by
 unfold DivIs
 rw [hR]
 refine ⟨⟨vq, X, ca, rfl, ?_, ?_⟩, hb⟩
 ·intro h
  rcases hX with ⟨h1, h2, _⟩ | ⟨_, _, _, h4⟩
  ·exact ⟨h1, h2⟩
  ·omega
 ·intro h
  rcases hX with ⟨_, _, h3⟩ | ⟨rfl, rfl, rfl, _⟩
  ·subst h3; omega
  ·exact ⟨hO, hcr⟩
theorem qk8 (A A2 : Option Addr) (c c2 : Nat) (p q : List Nat) (w : World) (h1 : P01 p) (h2 : P01 q) (t1 : Tr p) (t2 : Tr q) (h0 : 0 < q.length) (hr : Rd w w.heap.size 1 A p.length (p.map I64v)) (hr2 : Rd w w.heap.size 1 A2 q.length (q.map I64v)) (hp : p.length ≤ 100000) (hq : q.length ≤ 100000) :
    Calls Tryz.prog 158 #[.slice A p.length c, .slice A2 q.length c2] w (DivIs w A c p q) := by
 refine (JN2 Tryz.func158 28) ?_
 refine (JP∘Jp 2∘Jr∘Jp 1∘Jq) fun a Z I => ?_
 replace I := (I.nil 3 1).nil 3 1
 refine Jb Z I ((JG∘JQ∘JB) fun a Z I => ?_)
 refine qe (fun mS aS wS => ∃ (al : List Nat) (X : Option Addr) (ca : Nat) (Xr : Option Addr) (xr : List Nat) (cr : Nat) (ql : List Nat) (Aq : Option Addr) (cq : Nat), (P01 al) ∧ (Tr al) ∧ (al.length ≤ p.length) ∧ (divR (al.length + 1) al q = divR (p.length + 1) p q) ∧ ((X = A ∧ ca = c ∧ al = p) ∨ (X = Xr ∧ ca = cr ∧ al = xr ∧ q.length ≤ p.length)) ∧ (P01 ql) ∧ (ql.length ≤ p.length + 1) ∧ (xr.length ≤ cr) ∧ mS = al.length ∧ Fr aS 28 [] [(6, .slice Aq ql.length cq), (5, vN), (4, vN), (0, .slice X al.length ca), (1, .slice A2 q.length c2)] ∧ Mem w wS [.row (.slice Aq ql.length cq) ql.length (ql.map I64v) 3 1, .row (.slice Xr xr.length cr) xr.length (xr.map I64v) 3 1]) (m := p.length) ⟨p, A, c, none, [], 0, [], none, 0, h1, t1, Nat.le_refl _, rfl, .inl ⟨rfl, rfl, rfl⟩, (by intro x hx; cases hx), Nat.zero_le _, Nat.le_refl _, rfl, Z.sub kr, I.pk [0, 1]⟩ ?_
 clear Z I; rintro mS a w_ ⟨al, X, ca, Xr, xr, cr, ql, Aq, cq, ha1, hat, hal, hdv, hX, hq1, hql, hcr, rfl, Z, I⟩
 refine Jb Z I ((JQ∘JP∘Jp 1∘Jl∘Jp 1∘Jl∘Jp 1∘Jd4∘Jj) (Ju (fun hb12 => ?_) fun hb12 => ?_))
 ·
  intro a Z I
  have hd12 := of_decide_eq_true hb12
  have hless := qhw ha1 h2 hat t2 h0 om
  refine Jb Z I ((JT∘JS'∘JB∘JP∘Jp 1∘Jl∘Jp 1∘Jl∘Js∘Jp 1∘Jd5∘Jr∘Jp 1∘JU qbd #[vI 1]) fun w19 g19 => (Jp 1∘JK (h:=by exact fun I => qk7 _ _ _ _ ql [1] (al.length - q.length) _ hq1 one01 (I.rd (i := 1) rfl) (I.rdBlk (i := 0) (n := 1) (size := 1) rfl rfl) om (by simp only [List.length_singleton]; omega))) fun A21 c21 w21 hc21 => (Jp 1∘Jd4∘Jj∘JR∘Jp 3∘JK (h:=by exact fun I => qk7 _ _ _ _ al q (al.length - q.length) _ ha1 h2 (by rcases hX with ⟨rfl, rfl, rfl⟩ | ⟨rfl, rfl, rfl, _⟩ <;> first | exact I.old hr | exact I.rd (i := 3) rfl) (I.old hr2) om om)) fun A25 c25 w25 hc25 => (Jp 1∘Jd4∘Jq) fun a Z I => ?_)
  exact ⟨_, hless, (sumL al q (al.length - q.length)), A25, c25, A25, (sumL al q (al.length - q.length)), c25, (sumL ql [1] (al.length - q.length)), A21, c21, sum01 ha1 _, sumTr _ _ _, by omega, qtb h2 t2 h0 ha1 hat om hdv, .inr ⟨rfl, rfl, rfl, by omega⟩, sum01 hq1 _, by have := q7v ql [1] (al.length - q.length); simp only [List.length_singleton] at this; omega, hc25, rfl, Z.sub kr, I.pk [1, 0]⟩
 intro a Z I
 have hd12 := of_decide_eq_false hb12
 refine Jb Z I ((JF∘JX∘JG∘JP∘Jp 4∘Jj∘JZ) fun a Z I => ?_)
 have hR : divR (p.length + 1) p q = al := by rw [← hdv, qtc om]
 exact s_rt2 rfl Z rfl rfl (q33 hR hX (I.own (i := 1) rfl) hcr om I.below)
theorem qtk (A : Option Addr) (c y : Nat) (hy : y < 256) (w : World) (hr : Rd w w.heap.size 1 A 1 ([y].map B8)) :
    Calls Tryz.prog 159 #[.slice A 1 c] w (PolIs w (bitsOf y)) := by
 refine (JN1 Tryz.func159 52) ?_
 refine (JP∘Jp 1∘Jr∘Jp 1∘Jl∘Jv 2 [(3, vI 8)]∘Jd2∘Jr∘Jv 2 [(10, vI 40)]) fun a Z I => ?_
 refine fo Z 2 rfl rfl ?_
 refine qb5 Z I (m := 40) rfl qbd rfl rfl om om rfl de ?_
 clear Z I; intro a w11 g11 Z I
 refine Jb Z I ((Jp 1∘Jd2∘Jq) fun a Z I => ?_)
 have hnsomeg110none : 40 = 40 := rfl
 replace I := I.reRow (i := 0) (ys := (qbs y 0).map I64v) rfl hnsomeg110none (by rw [qqz]; kernel_rfl)
 replace Z := Z.sp 4 (vS g11 40 40) rfl (by rw [hnsomeg110none])
 refine Jb Z I ((JG∘JQ∘JP∘Jp 1∘Jj∘JB) fun a Z I => ?_)
 refine qe (fun mS aS wS => ∃ (k : Nat), (k ≤ 8) ∧ mS = 8 - k ∧ Fr aS 52 [] [(5, vI k), (4, vS g11 40 40), (3, vI 8), (2, vN), (0, .slice A 1 c)] ∧ Mem w wS [.row (vS g11 40 40) 40 ((qbs y k).map I64v) 3 1]) (m := 8 - 0) ⟨0, by omega, rfl, Z.sub kr, I.pk [0]⟩ ?_
 clear Z I; rintro mS a w_ ⟨k, hk, rfl, Z, I⟩
 refine Jb Z I ((JQ∘JP∘Jp 3∘Jd2∘Jj) (Ju (fun hb14 => ?_) fun hb14 => ?_))
 ·
  intro a Z I
  have hd14 := of_decide_eq_true hb14
  have hk8 : k < 8 := by omega
  refine Jb Z I ((JT∘JS'∘JQ∘JB∘JR∘Jv 6 [(22, vI (IntKind.i64.wrap (39 - (k : Int)))), (17, vS g11 40 40)]∘Jo (vI (39 - k : Nat)) (by exact ze om om)∘Jp 3∘Jo (vI (k / 8 : Nat)) (by exact qce .i64 8 (by show _ ≤ 9223372036854775807; omega))) ?_)
  repeat (first | clear Z | clear I)
  intro a Z I
  obtain ⟨gA, oA, rfl, _⟩ := hr.qu (Nat.lt_of_le_of_lt (Nat.zero_le _) (show k / 8 < 1 from by omega)) de
  refine Jb Z I ((Jy (h:=by exact Yl.ix gA oA (k / 8) 1 rfl rfl rfl)∘Jy (v := vB ([y].getD (k / 8) 0)) (h:=by exact Yl.o1 hr (k / 8) 0 (by first | omega | (simp; omega)) rfl rfl)∘Jo (vB y) (by rw [show k / 8 = 0 by omega]; try rfl)∘Jp 2∘Jo (vI (k % 8 : Nat)) (by exact q8 .i64 _ 8)∘Jy (v := vB (y / 2 ^ (k % 8) : Nat)) (h:=by exact Yl.shrN (m := y) (n := (k % 8)) rfl rfl rfl (by show _ ≤ 8; omega))∘Jp 1∘Jo (vB ((y / 2 ^ (k % 8)) % 2 : Nat)) (by exact q8 .u8 _ 2)∘Jw .i64∘Jy (h:=by exact Yl.ix0 g11 (39 - k) 1 rfl rfl rfl)) fun a Z I => ?_)
  refine fo Z 17 rfl rfl ?_
  refine q5 Z I (i := 0) rfl rfl rfl rfl kr rfl rfl (by rw [List.length_map, qay]; omega) ?_
  clear I; intro w6_17 I
  replace I := I.asRow (i := 0) (ys := (qbs y (k + 1)).map I64v) rfl ((qa3 I64v (qbs y k) (39 - k) (y / 2 ^ (k % 8) % 2) (by rw [qay]; omega)).trans (by rw [show k % 8 = k by omega, qq0 om]))
  refine Jb Z I ((Jt6∘Jj∘JR∘Jp 1∘JaK 1∘Jp 1∘Jd6∘Jq) fun a Z I => ?_)
  exact ⟨_, om, k + 1, by omega, rfl, Z.sub kr, I.pk [0]⟩
 intro a Z I
 have hd14 := of_decide_eq_false hb14
 revert I; revert a; repeat (first | clear Z | clear I)
 intro a Z I
 obtain rfl : k = 8 := by omega
 refine Jb Z I ((JF∘JX∘JG∘JQ∘JB) fun a Z I => ?_)
 refine qe (fun mS aS wS => ∃ (j : Nat), (j ≤ 40) ∧ (trimL ((qbs y 8).take j) = trimL (qbs y 8)) ∧ mS = 0 + j ∧ Fr aS 52 [] [(14, .bool false), (5, vI 8), (4, vS g11 j 40), (3, vI 8), (2, vN), (0, .slice A 1 c)] ∧ Mem w wS [.row (vS g11 40 40) 40 ((qbs y 8).map I64v) 3 1]) (m := 0 + 40) ⟨40, by omega, by rw [List.take_of_length_le (by rw [qay]; omega)], rfl, Z.sub kr, I.pk [0]⟩ ?_
 clear Z I; rintro mS a w_ ⟨j, hj, ht, rfl, Z, I⟩
 have hbl := qay y 8
 refine Jb Z I ((JQ∘JP∘Jp 1∘Jl∘Jp 2) (Ju (fun hb37 => ?_) fun hb37 => ?_))
 ·
  intro a Z I
  have hd37 := of_decide_eq_true hb37
  have hj0 : 0 < j := by omega
  refine Jb Z I ((Jp 2∘Jl∘JsK 1∘Jy (h:=by exact Yl.ix0 g11 (j - 1) 1 rfl rfl rfl)∘Jy (h:=by exact Yl.r1 0 (j - 1) 0 (by first | omega | (simp; omega)) rfl rfl rfl)∘Jp 2∘Jd6∘Jj) (Je (fun hd45 => ?_) fun hd45 => ?_))
  ·
   refine (JT∘JS'∘JB∘JR∘Jp 2∘Jl∘JsK 1∘Jy (h:=by exact Yl.qan qbd (j := j - 1) rfl rfl rfl om)∘Jp 1∘Jd5∘Jq) fun a Z I => ?_
   exact ⟨_, om, (j - 1), by omega, qo7 om om om ht, rfl, Z.sub kr, I.pk [0]⟩
  refine (JF∘JX∘JG∘JP∘Jp 2∘Jd1∘Jj∘JZ) fun a Z I => ?_
  have hjt := qgb (l := qbs y 8) (k := j) om (fun _ => by omega) ht
  have hjl : (bitsOf y).length = j := by rw [← qk6, hjt, List.length_take]; omega
  have HM2 := I.cutRow (i := 0) (m := (bitsOf y).length) (ys := (bitsOf y).map I64v) rfl om (by rw [Nat.mul_one, ← List.map_take, hjl, ← hjt]; rfl)
  exact s_rt1 rfl Z rfl (⟨⟨some ⟨g11, 0, none⟩, 40, by rw [hjl], HM2.own (i := 0) rfl, by omega⟩, I.below⟩)
 intro a Z I
 have hd37 := of_decide_eq_false hb37
 refine Jb Z I ((Jv 8 [(45, .bool false)]∘Jd4∘Jj∘JF∘JX∘JG∘JP∘Jp 2∘Jd1∘Jj∘JZ) fun a Z I => ?_)
 have hjt := qgb (l := qbs y 8) (k := j) om (fun _ => by omega) ht
 have hjl : (bitsOf y).length = j := by rw [← qk6, hjt, List.length_take]; omega
 have HM2 := I.cutRow (i := 0) (m := (bitsOf y).length) (ys := (bitsOf y).map I64v) rfl om (by rw [Nat.mul_one, ← List.map_take, hjl, ← hjt]; rfl)
 exact s_rt1 rfl Z rfl (⟨⟨some ⟨g11, 0, none⟩, 40, by rw [hjl], HM2.own (i := 0) rfl, by omega⟩, I.below⟩)
theorem qpa (w : World) : Calls Tryz.prog 160 #[vQ 4374732215] w (PolIs w genP) := q0f 4374732215 de w
theorem genlen : 0 < genP.length := by rw [qe6]; decide
theorem qq1 (A : Option Addr) (c : Nat) (w : World) (hr : Rd w w.heap.size 1 A 1 ([0].map B8)) :
    Calls Tryz.prog 152 #[.slice A 1 c] w (Is w (vW (crcT 0 : Int))) := by
 refine (JN1 Tryz.func152 31) ?_
 refine (JP∘Jp 1∘Jr∘Jp 1∘JK (h:=by exact fun I => qtk _ _ 0 om _ (I.old hr))) fun A9 c9 w9 hc9 => (JK (h:=by exact fun I => qpa _)) fun A10 c10 w10 hc10 => (JL (h:=by exact fun I => qk8 _ _ _ _ (bitsOf 0) genP _ (qte _) (qtd _) (qtg _) (qtf _) genlen (I.rd (i := 1) rfl) (I.rd (i := 0) rfl) (by have := qmt 0; omega) (by rw [qe6]; decide))) ?_
 rintro I _ w11 ⟨⟨vq, X, cX, rfl, hd1, hd2⟩, hbw⟩
 refine ⟨_, rfl, _, I.call hbw, ?_⟩
 refine (Jp 1∘Jx∘Jx∘Jp 2∘Jd6∘Jq) fun a Z I => ?_
 have hl32 := qth 0
 have hl0 : (linR 0).length = 0 := by rw [q0e]; rfl
 refine Jb Z I ((JG∘JP∘Jp 1∘Jj∘JQ∘JP∘Jp 1∘Jj∘JB) fun a Z I => ?_)
 replace I := I.pk (fs' := []) []
 refine qe (fun mS aS wS => ∃ (k : Nat), (k ≤ (linR 0).length) ∧ mS = (linR 0).length - k ∧ Fr aS 31 [] [(6, vI k), (5, vW (remUp (linR 0) k)), (4, .slice X ((linR 0).length) cX), (2, vW 0)] ∧ Mem w wS []) (m := (linR 0).length - 0) ⟨0, Nat.zero_le _, rfl, Z.sub kr, I.pk []⟩ ?_
 clear Z I; rintro mS a w_ ⟨k, hk, rfl, Z, I⟩
 refine Jb Z I ((JQ∘JP∘Jp 2∘Jl∘Jp 1∘Jd3∘Jj) (Ju (fun hb17 => ?_) fun hb17 => ?_))
 ·
  intro a Z I
  have hd17 := of_decide_eq_true hb17
  omega
 intro a Z I
 have hd17 := of_decide_eq_false hb17
 exact Jb Z I ((JF∘JX∘JG∘JP∘Jp 2∘Jd1∘Jj∘JZ∘Jz1) fun I => by exact ⟨by rw [show k = (linR 0).length by omega, qo9, q0d, qnb 0 om], I.below⟩)
theorem qvp (A : Option Addr) (c y : Nat) (hy : y < 256) (hy0 : y ≠ 0) (w : World) (hr : Rd w w.heap.size 1 A 1 ([y].map B8)) :
    Calls Tryz.prog 152 #[.slice A 1 c] w (Is w (vW (crcT y : Int))) := by
 refine (JN1 Tryz.func152 31) ?_
 refine (JP∘Jp 1∘Jr∘Jp 1∘JK (h:=by exact fun I => qtk _ _ y om _ (I.old hr))) fun A9 c9 w9 hc9 => (JK (h:=by exact fun I => qpa _)) fun A10 c10 w10 hc10 => (JL (h:=by exact fun I => qk8 _ _ _ _ (bitsOf y) genP _ (qte _) (qtd _) (qtg _) (qtf _) genlen (I.rd (i := 1) rfl) (I.rd (i := 0) rfl) (by have := qmt y; omega) (by rw [qe6]; decide))) ?_
 rintro I _ w11 ⟨⟨vq, X, cX, rfl, hd1, hd2⟩, hbw⟩
 obtain ⟨ho, hcX⟩ := hd2 (by rw [qe6]; exact q32 y hy hy0)
 refine ⟨_, rfl, _, I.callRow hbw ho, ?_⟩
 refine (Jp 1∘Jx∘Jx∘Jp 2∘Jd6∘Jq) fun a Z I => ?_
 have hl32 := qth y
 refine Jb Z I ((JG∘JP∘Jp 1∘Jj∘JQ∘JP∘Jp 1∘Jj∘JB∘JM (.t (.f (.f .n)))) fun a Z I => ?_)
 refine qe (fun mS aS wS => ∃ (k : Nat), (k ≤ (linR y).length) ∧ mS = (linR y).length - k ∧ Fr aS 31 [] [(6, vI k), (5, vW (remUp (linR y) k)), (4, .slice X ((linR y).length) cX), (2, vW 0)] ∧ Mem w wS [.row (.slice X ((linR y).length) cX) ((linR y).length) ((linR y).map I64v) 3 1]) (m := (linR y).length - 0) ⟨0, Nat.zero_le _, rfl, Z.sub kr, I.pk [0]⟩ ?_
 clear Z I; rintro mS a w_ ⟨k, hk, rfl, Z, I⟩
 refine Jb Z I ((JQ∘JP∘Jp 2∘Jl∘Jp 1∘Jd3∘Jj) (Ju (fun hb17 => ?_) fun hb17 => ?_))
 ·
  intro a Z I
  have hd17 := of_decide_eq_true hb17
  have hk31 : k < 32 := by omega
  refine Jb Z I ((JT∘JS'∘JQ∘JB∘JP∘Jp 2) ?_)
  repeat (first | clear Z | clear I)
  intro a Z I
  obtain ⟨gX, rfl⟩ := qm (I.own (i := 0) rfl) (Nat.lt_of_le_of_lt (Nat.zero_le _) (show k < (linR y).length from by omega))
  refine Jb Z I ((Jy (h:=by exact Yl.ix0 gX k 1 rfl rfl rfl)∘Jy (h:=by exact Yl.r1 0 k 0 (by first | omega | (simp; omega)) rfl rfl rfl)∘Jp 1∘Jd4∘Jj) (Ju (fun hb24 => ?_) fun hb24 => ?_))
  ·
   intro a Z I
   have hd24 := eq_of_beq hb24
   have hrs := q7x (linR y) hk31
   refine Jb Z I ((JT∘JR∘Jp 3∘Jo (vI (31 - k : Nat)) (by exact ze om om)∘Jy (v := vW (1 * 2 ^ (31 - k) : Nat)) (h:=by exact Yl.shlN (m := 1) (n := (31 - k)) rfl rfl rfl (by show _ ≤ 32; omega) (pow31 k))∘Jp 1∘Jo (vW (remUp (linR y) (k + 1))) (by exact qco (by rw [qel, if_pos om]; omega) (by rw [qel, if_pos om]; omega))∘Jp 1∘Jd5∘Jj∘JR∘Jp 1∘JaK 1∘Jp 1∘Jd2∘Jq) fun a Z I => ?_)
   exact ⟨_, om, k + 1, by omega, rfl, Z.sub kr, I.pk [0]⟩
  intro a Z I
  have hd24 := ne_of_beq_false hb24
  replace Z := Z.sp 5 (vW (remUp (linR y) (k + 1) : Int)) rfl (by rw [qel, if_neg om, Nat.add_zero])
  refine Jb Z I ((JF∘JS'∘JR∘Jp 1∘JaK 1∘Jp 1∘Jd2∘Jq) fun a Z I => ?_)
  exact ⟨_, om, k + 1, by omega, rfl, Z.sub kr, I.pk [0]⟩
 intro a Z I
 have hd17 := of_decide_eq_false hb17
 exact Jb Z I ((JF∘JX∘JG∘JP∘Jp 2∘Jd1∘Jj∘JZ∘Jz1) fun I => by exact ⟨by rw [show k = (linR y).length by omega, qo9, q0d, qnb y om], I.below⟩)
theorem qvq (A : Option Addr) (c y : Nat) (hy : y < 256) (w : World) (hr : Rd w w.heap.size 1 A 1 ([y].map B8)) : Calls Tryz.prog 152 #[.slice A 1 c] w (Is w (vW (crcT y : Int))) := by
 by_cases h : y = 0
 ·subst h; exact qq1 A c w hr
 ·exact qvp A c y hy h w hr
theorem q0g (c : Nat) (hc : c < 4294967296) (A : Option Addr) (n cp : Nat) (l : List Nat) (w : World) (hr : Rd w w.heap.size 1 A n (l.map B8)) (hln : l.length = n) (hn : n ≤ 1000000000) (hl : ∀ b ∈ l, b < 256) :
    Calls Tryz.prog 132 #[vW c, .slice A n cp] w (Is w (vW ((4294967295 - qo (4294967295 - c) l : Nat) : Int))) := by
 refine (JN2 Tryz.func132 29) ?_
 refine (JP∘Jp 1∘Jr∘Jp 2∘Jo (vW (4294967295 - c : Nat)) (by exact qco om om)∘Jp 1∘Jd2∘Jj∘JQ∘JP∘Jp 1∘Jj∘JB) fun a Z I => ?_
 refine qe (fun mS aS wS => ∃ (k : Nat), (k ≤ n) ∧ mS = n - k ∧ Fr aS 29 [] [(5, vI k), (0, vW (qo (4294967295 - c) (l.take k))), (4, vW 0), (1, .slice A n cp)] ∧ Mem w wS []) (m := n - 0) ⟨0, Nat.zero_le _, rfl, Z.sub kr, I.pk []⟩ ?_
 clear Z I; rintro mS a w_ ⟨k, hk, rfl, Z, I⟩
 have hcr := qc1 (l.take k) (c := 4294967295 - c) om (qli hl k)
 refine Jb Z I ((JQ∘JP∘Jp 2∘Jl∘Jp 1∘Jd3∘Jj) (Ju (fun hb11 => ?_) fun hb11 => ?_))
 ·
  intro a Z I
  have hd11 := of_decide_eq_true hb11
  have hk11 : k < n := by omega
  have hxk := getD_lt hl (k := k) om
  have hy8 : (qo (4294967295 - c) (l.take k) % 256 ^^^ l.getD k 0) < 256 := Nat.xor_lt_two_pow (n := 8) om om
  refine Jb Z I ((JT∘JS'∘JQ∘JB∘JR∘Jp 2∘Jo (vW ((qo (4294967295 - c) (l.take k)) / 256 : Nat)) (by exact qce .u32 256 (by show _ ≤ 4294967295; omega))∘Jp 2∘Jo (vW ((qo (4294967295 - c) (l.take k)) % 256 : Nat)) (by exact q8 .u32 _ 256)∘Jv 1 [(18, vB (IntKind.u8.wrap (((qo (4294967295 - c) (l.take k)) % 256 : Nat) : Int)))]∘Jo (vB (qo (4294967295 - c) (l.take k) % 256 : Nat)) (by exact (qeo (qo (4294967295 - c) (l.take k) % 256)).trans (by rw [Nat.mod_mod]))∘Jp 2) ?_)
  repeat (first | clear Z | clear I)
  intro a Z I
  obtain ⟨gA, oA, rfl, _⟩ := hr.qu (Nat.lt_of_le_of_lt (Nat.zero_le _) (show k < n from by omega)) de
  refine Jb Z I ((Jy (h:=by exact Yl.ix gA oA k 1 rfl rfl rfl)∘JH (getD_lt hl (k := k) (by first | omega | (simp; omega)))) fun hx1 => (Jy (h:=by exact Yl.o1 hr k 0 (by first | omega | (simp; omega)) rfl rfl)∘Jp 1∘Jo (vB ((qo (4294967295 - c) (l.take k) % 256) ^^^ (l.getD k 0) : Nat)) (by exact qv9 (m := qo (4294967295 - c) (l.take k) % 256) (n := (l.getD k 0)) om om)∘JU ei_u8 #[vB ((qo (4294967295 - c) (l.take k) % 256) ^^^ (l.getD k 0) : Nat)]) fun w24 g24 => (JI (h:=by exact fun I => qvq _ _ (qo (4294967295 - c) (l.take k) % 256 ^^^ l.getD k 0) hy8 _ (I.rdBlk (i := 0) (n := 1) (size := 1) rfl rfl))) fun w25 hbw => (Jp 1∘Jo (vW (qo (4294967295 - c) (l.take (k + 1)))) (by have h := qh6 (m := (qo (4294967295 - c) (l.take k)) / 256) (n := crcT (qo (4294967295 - c) (l.take k) % 256 ^^^ l.getD k 0)) om (qwj om); rw [qic om, qjr]; exact h)∘Jp 1∘Jd6∘Jj∘JR∘Jp 1∘JaK 1∘Jp 1∘Jd2∘Jq) fun a Z I => ?_)
  exact ⟨_, om, k + 1, by omega, rfl, Z.sub kr, I.pk []⟩
 intro a Z I
 have hd11 := of_decide_eq_false hb11
 exact Jb Z I ((JF∘JX∘JG∘JP∘Jp 2∘Jo (vW (4294967295 - (qo (4294967295 - c) (l.take k)) : Nat)) (by exact qco om om)∘Jp 1∘Jd2∘Jj∘JZ∘Jz1) fun I => by exact ⟨by rw [List.take_of_length_le om], I.below⟩)
theorem q0h (A : Option Addr) (n cp : Nat) (l : List Nat) (w : World) (hr : Rd w w.heap.size 1 A n (l.map B8)) (hln : l.length = n) (hn : n ≤ 1000000000) (hl : ∀ b ∈ l, b < 256) :
    Calls Tryz.prog 90 #[.slice A n cp] w (Is w (vW (qp l : Int))) := by
 refine (JN1 Tryz.func90 5) ?_
 exact (JP∘Jp 1∘Jr∘Jp 1∘JI (h:=by exact fun I => q0g 0 de _ _ _ l _ (I.old hr) hln hn hl)) fun w4 hbw => (Jp 1∘Jd2∘Jj∘JZ) JY1
theorem qg2 (A : Option Addr) (n cp : Nat) (l : List Nat) (w : World) (hr : Rd w w.heap.size 1 A n (l.map B8)) (hln : l.length = n) (hn : n ≤ 100000000) (hl : ∀ b ∈ l, b < 256) :
    Calls Tryz.prog 56 #[.slice A n cp] w (qch w (sealL l)) := by
 refine (JN1 Tryz.func56 25) ?_
 refine (JP∘Jp 1∘Jr∘Jp 1∘JI (h:=by exact fun I => q0h _ _ _ l _ (I.old hr) hln om hl)) fun w5 hbw => (Jp 1∘Jd2∘Jq) fun a Z I => ?_
 have hcs := qid l
 refine Jb Z I ((JG∘JP) fun a Z I => ?_)
 refine fo Z 0 rfl rfl ?_
 refine qdg Z I rfl ei_u8 rfl de ?_
 clear Z I; intro a w6 g6 Z I
 refine Jb Z I ((Jp 1∘JD (l.map B8) 0 (fun _ _ => O0') ei_u8 (hr:=by exact fun I => I.old hr) (h1:=by exact qj1 _)) fun w8 A8 c8 hc8 => (Jp 2∘Jo (vW ((qp l) % 256 : Nat)) (by exact q8 .u32 _ 256)∘Jv 1 [(11, vB (IntKind.u8.wrap (((qp l) % 256 : Nat) : Int)))]∘Jo (vB (qp l % 256 : Nat)) (by exact (qeo (qp l % 256)).trans (by rw [Nat.mod_mod]))∘Jp 2∘Jo (vW ((qp l) / 256 : Nat)) (by exact qce .u32 256 (by show _ ≤ 4294967295; omega))∘Jp 1∘Jo (vW (((qp l) / 256) % 256 : Nat)) (by exact q8 .u32 _ 256)∘Jv 1 [(15, vB (IntKind.u8.wrap ((((qp l) / 256) % 256 : Nat) : Int)))]∘Jo (vB (qp l / 256 % 256 : Nat)) (by exact (qeo (qp l / 256 % 256)).trans (by rw [Nat.mod_mod]))∘Jp 2∘Jo (vW ((qp l) / 65536 : Nat)) (by exact qce .u32 65536 (by show _ ≤ 4294967295; omega))∘Jp 1∘Jo (vW (((qp l) / 65536) % 256 : Nat)) (by exact q8 .u32 _ 256)∘Jv 1 [(19, vB (IntKind.u8.wrap ((((qp l) / 65536) % 256 : Nat) : Int)))]∘Jo (vB (qp l / 65536 % 256 : Nat)) (by exact (qeo (qp l / 65536 % 256)).trans (by rw [Nat.mod_mod]))∘Jp 2∘Jo (vW ((qp l) / 16777216 : Nat)) (by exact qce .u32 16777216 (by show _ ≤ 4294967295; omega))∘Jv 1 [(22, vB (IntKind.u8.wrap (((qp l) / 16777216 : Nat) : Int)))]∘Jo (vB (((qp l) / 16777216) % 256 : Nat)) (by exact qeo ((qp l) / 16777216))∘JU ei_u8 #[vB (qp l % 256 : Nat), vB (qp l / 256 % 256 : Nat), vB (qp l / 65536 % 256 : Nat), vB (((qp l) / 16777216) % 256 : Nat)]) fun w23 g23 => (JD ((le4 (qp l)).map B8) 1 (fun _ _ => O1') ei_u8 (hr:=by exact fun I => I.rdBlk (i := 0) (n := 4) (size := 1) rfl rfl) (h1:=by exact qj1 _)) fun w24 A24 c24 hc24 => (Jp 1∘Jd6∘Jq) fun a Z I => ?_)
 have hnA24 : 0 + n + 4 = (sealL l).length := by rw [qci]; omega
 replace I := I.reRow (i := 1) (ys := (sealL l).map B8) rfl hnA24 (by simp [sealL])
 rw [hnA24] at hc24
 replace Z := Z.sp 2 (.slice A24 ((sealL l).length) c24) rfl (by rw [hnA24])
 exact Jb Z I ((JG∘JZ∘JM (.f .n)∘Jz1) fun I => by exact ⟨⟨_, _, rfl, I.own (i := 0) rfl, hc24⟩, I.below⟩)
def readN : Nat → List Nat → List Nat × Nat × Nat
 | 0, _ => ([], 0, 0)
 | k + 1, l =>
  if (vread l).2.2 ≠ 0 then ([], 0, (vread l).2.2)
  else if (readN k (l.drop (vread l).2.1)).2.2 ≠ 0 then ([], 0, (readN k (l.drop (vread l).2.1)).2.2)
  else ((vread l).1 :: (readN k (l.drop (vread l).2.1)).1, (vread l).2.1 + (readN k (l.drop (vread l).2.1)).2.1, 0)
theorem qqi : ∀ (l : List Nat) (i acc : Nat), (vgo i acc l).2.1 ≤ i + l.length ∧ ((vgo i acc l).2.2 = 0 → i < (vgo i acc l).2.1)
 | [], i, acc => by simp [vgo]
 | b :: r, i, acc => by
  rw [vgo]
  split
  ·simp
  ·split
   ·simp
   ·split
    ·simp
    ·have := qqi r (i + 1) (acc + (b - 128) * 128 ^ i)
     refine ⟨by simp only [List.length_cons]; omega, fun h => by have := this.2 h; omega⟩
theorem qi8 (l : List Nat) : (vread l).2.1 ≤ l.length := by have := (qqi l 0 0).1; unfold vread; omega
theorem qoi (l : List Nat) (h : (vread l).2.2 = 0) : 0 < (vread l).2.1 := (qqi l 0 0).2 h
theorem qoj : ∀ (l : List Nat) (i acc : Nat), (∀ b ∈ l, b < 256) → acc < 128 ^ i → i ≤ 9 → (vgo i acc l).1 < 18446744073709551616
 | [], i, acc, _, _, _ => by simp [vgo]
 | b :: r, i, acc, hl, ha, hi => by
  have hb := hl b (by simp)
  have hp := qoh i hi
  rw [vgo]
  split
  ·show 0 < _; omega
  ·rename_i h9
   split
   ·show 0 < _; omega
   ·split
    ·show acc + b * 128 ^ i < _
     rcases Nat.lt_or_ge i 9 with h | h
     ·have h1 : (128 : Nat) ^ i ≤ 128 ^ 8 := Nat.pow_le_pow_right (by omega) (by omega)
      have h2 : (128 : Nat) ^ 8 = 72057594037927936 := by decide
      have h3 : b * 128 ^ i ≤ 127 * 128 ^ i := Nat.mul_le_mul_right _ (by omega)
      omega
     ·have h3 : b * 128 ^ i ≤ 1 * 128 ^ i := Nat.mul_le_mul_right _ (by omega)
      omega
    ·rcases Nat.lt_or_ge i 9 with h | h
     ·refine qoj r (i + 1) _ (fun x hx => hl x (by simp [hx])) ?_ (by omega)
      have := qsg acc (b - 128) i ha
      rwa [show (b - 128) % 128 = b - 128 by omega] at this
     ·omega
theorem qi9 (l : List Nat) (hl : ∀ b ∈ l, b < 256) : (vread l).1 < 18446744073709551616 := qoj l 0 0 hl (by omega) (by omega)
theorem qsh : ∀ (l : List Nat) (i acc x m : Nat), (∀ b ∈ l, b < 256) → i ≤ 9 → vgo i acc l = (x, m, 0) →
  ∃ y, x = acc + y * 128 ^ i ∧ (grp (10 - i) y).map vbyte = l.take (m - i) ∧ i < m ∧ (0 < i → 0 < y)
 | [], i, acc, x, m, _, _, h => by simp [vgo] at h
 | b :: r, i, acc, x, m, hl, hi, h => by
  have hb := hl b (by simp)
  rw [vgo] at h
  split at h
  ·simp at h
  ·rename_i h9
   split at h
   ·simp at h
   ·rename_i h0
    split at h
    ·rename_i h128
     simp only [Prod.mk.injEq] at h
     obtain ⟨rfl, rfl, _⟩ := h
     refine ⟨b, rfl, ?_, by omega, fun _ => by omega⟩
     obtain ⟨f, hf⟩ : ∃ f, 10 - i = f + 1 := ⟨9 - i, by omega⟩
     rw [hf, qhz f b h128, show i + 1 - i = 1 by omega]
     rfl
    ·rename_i h128
     obtain ⟨y, h1, h2, h3, h4⟩ := qsh r (i + 1) _ x m (fun b hb => hl b (by simp [hb])) (by omega) h
     have hy := h4 (by omega)
     refine ⟨(b - 128) + 128 * y, ?_, ?_, by omega, fun _ => by omega⟩
     ·rw [h1, Nat.pow_succ, Nat.add_mul]
      have : y * (128 ^ i * 128) = 128 * y * 128 ^ i := by rw [Nat.mul_comm (128 ^ i) 128, ← Nat.mul_assoc, Nat.mul_comm y 128]
      omega
     ·obtain ⟨f, hf⟩ : ∃ f, 10 - i = f + 1 := ⟨9 - i, by omega⟩
      rw [hf, qe9 f _ (by omega), show ((b - 128) + 128 * y) % 128 = b - 128 by omega, show ((b - 128) + 128 * y) / 128 = y by omega]
      rw [show f = 10 - (i + 1) by omega, List.map_cons, h2]
      obtain ⟨k, hk⟩ : ∃ k, m - i = k + 1 := ⟨m - i - 1, by omega⟩
      rw [hk, List.take_succ_cons, show m - (i + 1) = k by omega]
      congr 1
      show b - 128 + 128 = b
      omega
theorem qkt {l : List Nat} {x m : Nat} (hl : ∀ b ∈ l, b < 256) (h : vread l = (x, m, 0)) : vbytes x = l.take m := by
 obtain ⟨y, h1, h2, h3, _⟩ := qsh l 0 0 x m hl (by omega) h
 have : x = y := by simpa using h1
 subst this
 simpa [vbytes] using h2
theorem qku : ∀ (j : Nat) (l xs : List Nat) (u : Nat), (∀ b ∈ l, b < 256) → readN j l = (xs, u, 0) → xs.flatMap vbytes = l.take u ∧ xs.length = j ∧ (∀ x ∈ xs, x < 18446744073709551616) ∧ u ≤ l.length
 | 0, l, xs, u, _, h => by
  simp only [readN, Prod.mk.injEq] at h
  obtain ⟨rfl, rfl, _⟩ := h
  simp
 | j + 1, l, xs, u, hl, h => by
  have hvl := qi8 l
  have hvb := qi9 l hl
  rw [readN] at h
  split at h
  ·rename_i h1; simp at h; exact absurd h.2.2 h1
  ·rename_i h1
   split at h
   ·rename_i h2; simp at h; exact absurd h.2.2 h2
   ·rename_i h2
    have hv : vread l = ((vread l).1, (vread l).2.1, 0) := by rw [← show (vread l).2.2 = 0 by omega]
    generalize (vread l).1 = x at hv h hvb
    generalize (vread l).2.1 = m at hv h hvl
    have hq : readN j (l.drop m) = ((readN j (l.drop m)).1, (readN j (l.drop m)).2.1, 0) := by
     rw [hv] at h2
     rw [← show (readN j (l.drop m)).2.2 = 0 by simpa using h2]
    generalize (readN j (l.drop m)).1 = ys at hq h
    generalize (readN j (l.drop m)).2.1 = n at hq h
    simp only [Prod.mk.injEq] at h
    obtain ⟨rfl, rfl, _⟩ := h
    obtain ⟨g1, g2, g3, g4⟩ := qku j (l.drop m) ys n (fun b hb => hl b (List.mem_of_mem_drop hb)) hq
    rw [List.length_drop] at g4
    refine ⟨?_, by simp [g2], ?_, by omega⟩
    ·rw [List.flatMap_cons, g1, qkt hl hv, List.take_add]
    ·intro z hz
     rcases List.mem_cons.1 hz with rfl | hz
     ·exact hvb
     ·exact g3 z hz
theorem q23 (i : Nat) (h : i ≤ 8) : 2 ^ (64 - 7 * i) = 128 * 2 ^ (64 - 7 * (i + 1)) := by
 rw [show 64 - 7 * i = 7 + (64 - 7 * (i + 1)) by omega, Nat.pow_add]
theorem q24 (acc y i : Nat) : acc + (y % 128 + 128 - 128) * 128 ^ i + y / 128 * 128 ^ (i + 1) = acc + y * 128 ^ i := by
 rw [Nat.pow_succ, Nat.add_sub_cancel, Nat.add_assoc, Nat.mul_comm (128 ^ i) 128, ← Nat.mul_assoc, ← Nat.add_mul]
 congr 2
 omega
theorem qzc : ∀ (f y i acc : Nat) (rest : List Nat), i + f = 10 → 1 ≤ f → y < 2 ^ (64 - 7 * i) → (0 < i → 0 < y) →
  vgo i acc ((grp f y).map vbyte ++ rest) = (acc + y * 128 ^ i, i + (grp f y).length, 0)
 | 0, _, _, _, _, _, h, _, _ => by omega
 | f + 1, y, i, acc, rest, hi, _, hy, h0 => by
  have h9 : i = 9 → y < 2 := fun e => by subst e; simpa using hy
  by_cases h : y < 128
  ·rw [qhz f y h]
   show vgo i acc (y :: rest) = _
   rw [vgo, if_neg (by omega), if_neg (by omega), if_pos h]
   rfl
  ·rw [qe9 f y (by omega)]
   show vgo i acc ((y % 128 + 128) :: ((grp f (y / 128)).map vbyte ++ rest)) = _
   have hi8 : i ≤ 8 := by
    rcases Nat.lt_or_ge i 9 with h | h
    ·omega
    ·have := h9 (by omega); omega
   have hy' : y / 128 < 2 ^ (64 - 7 * (i + 1)) := by
    rw [q23 i hi8] at hy
    exact Nat.div_lt_of_lt_mul hy
   rw [vgo, if_neg (by omega), if_neg (by omega), if_neg (by omega), qzc f (y / 128) (i + 1) _ rest (by omega) (by omega) hy' (fun _ => by omega), q24]
   simp only [List.length_cons, Prod.mk.injEq, and_true, true_and]
   omega
theorem qok {y : Nat} (rest : List Nat) (hy : y < 18446744073709551616) : vread (vbytes y ++ rest) = (y, (vbytes y).length, 0) := by
 have := qzc 10 y 0 0 rest rfl (by omega) (by simpa using hy) (fun h => by omega)
 unfold vread vbytes
 rw [this]
 simp
theorem qkv : ∀ (k : Nat) (l xs : List Nat) (u x m : Nat), readN k l = (xs, u, 0) → vread (l.drop u) = (x, m, 0) → readN (k + 1) l = (xs ++ [x], u + m, 0)
 | 0, l, xs, u, x, m, h, h2 => by
  simp only [readN, Prod.mk.injEq] at h
  obtain ⟨rfl, rfl, _⟩ := h
  rw [List.drop_zero] at h2
  simp [readN, h2]
 | k + 1, l, xs, u, x, m, h, h2 => by
  rw [readN] at h
  split at h
  ·rename_i h1; simp at h; exact absurd h.2.2 h1
  ·rename_i h1
   split at h
   ·rename_i h3; simp at h; exact absurd h.2.2 h3
   ·rename_i h3
    simp only [Prod.mk.injEq] at h
    obtain ⟨rfl, rfl, _⟩ := h
    have hq : readN k (l.drop (vread l).2.1) = ((readN k (l.drop (vread l).2.1)).1, (readN k (l.drop (vread l).2.1)).2.1, 0) := by
     rw [← show (readN k (l.drop (vread l).2.1)).2.2 = 0 by omega]
    have h4 := qkv k _ _ _ x m hq (by rwa [List.drop_drop])
    rw [readN, if_neg h1, h4, if_neg (by simp)]
    simp [Nat.add_assoc]
theorem qja : ∀ (k j : Nat) (l xs : List Nat) (u : Nat), readN k l = (xs, u, 0) → (vread (l.drop u)).2.2 ≠ 0 → (readN (k + 1 + j) l).2.2 ≠ 0
 | 0, j, l, xs, u, h, h2 => by
  simp only [readN, Prod.mk.injEq] at h
  obtain ⟨rfl, rfl, _⟩ := h
  rw [List.drop_zero] at h2
  rw [show 0 + 1 + j = j + 1 by omega, readN, if_pos h2]
  exact h2
 | k + 1, j, l, xs, u, h, h2 => by
  rw [readN] at h
  split at h
  ·rename_i h1; simp at h; exact absurd h.2.2 h1
  ·rename_i h1
   split at h
   ·rename_i h3; simp at h; exact absurd h.2.2 h3
   ·rename_i h3
    simp only [Prod.mk.injEq] at h
    obtain ⟨rfl, rfl, _⟩ := h
    have hq : readN k (l.drop (vread l).2.1) = ((readN k (l.drop (vread l).2.1)).1, (readN k (l.drop (vread l).2.1)).2.1, 0) := by
     rw [← show (readN k (l.drop (vread l).2.1)).2.2 = 0 by omega]
    have h4 := qja k j _ _ _ hq (by rwa [List.drop_drop])
    rw [show k + 1 + 1 + j = (k + 1 + j) + 1 by omega, readN, if_neg h1, if_pos h4]
    exact h4
theorem qsi : ∀ (k : Nat) (l xs : List Nat) (u : Nat), readN k l = (xs, u, 0) → xs.length = k ∧ k ≤ u ∧ u ≤ l.length
 | 0, l, xs, u, h => by
  simp only [readN, Prod.mk.injEq] at h
  obtain ⟨rfl, rfl, _⟩ := h
  simp
 | k + 1, l, xs, u, h => by
  rw [readN] at h
  split at h
  ·rename_i h1; simp at h; exact absurd h.2.2 h1
  ·rename_i h1
   split at h
   ·rename_i h3; simp at h; exact absurd h.2.2 h3
   ·rename_i h3
    simp only [Prod.mk.injEq] at h
    obtain ⟨rfl, rfl, _⟩ := h
    have hq : readN k (l.drop (vread l).2.1) = ((readN k (l.drop (vread l).2.1)).1, (readN k (l.drop (vread l).2.1)).2.1, 0) := by
     rw [← show (readN k (l.drop (vread l).2.1)).2.2 = 0 by omega]
    obtain ⟨h4, h5, h6⟩ := qsi k _ _ _ hq
    have h7 := qoi l (by omega)
    have h8 := qi8 l
    rw [List.length_drop] at h6
    refine ⟨by simp [h4], by omega, by omega⟩
theorem qor : ∀ {l m : List Nat}, (∀ x ∈ l, x < 18446744073709551616) → (∀ x ∈ m, x < 18446744073709551616) → l.flatMap vbytes = m.flatMap vbytes → l = m
 | [], [], _, _, _ => rfl
 | [], y :: m, _, _, h => by
  have h1 := congrArg List.length h
  have h2 := qed y
  rw [List.flatMap_cons, List.length_append] at h1
  simp only [List.flatMap_nil, List.length_nil] at h1
  omega
 | x :: l, [], _, _, h => by
  have h1 := congrArg List.length h
  have h2 := qed x
  rw [List.flatMap_cons, List.length_append] at h1
  simp only [List.flatMap_nil, List.length_nil] at h1
  omega
 | x :: l, y :: m, h1, h2, h => by
  rw [List.flatMap_cons, List.flatMap_cons] at h
  have a := qok (l.flatMap vbytes) (h1 x (List.mem_cons_self ..))
  have b := qok (m.flatMap vbytes) (h2 y (List.mem_cons_self ..))
  rw [h, b] at a
  injection a with a1 a2
  subst a1
  rw [qor (fun z hz => h1 z (List.mem_cons_of_mem _ hz)) (fun z hz => h2 z (List.mem_cons_of_mem _ hz)) (List.append_cancel_left h)]
theorem qf0 {α : Type} {l m : List α} (d : α) (hl : l.length = m.length) (h : ∀ i, i < l.length → l.getD i d = m.getD i d) : l = m := by
 refine List.ext_getElem hl fun i h1 h2 => ?_
 have := h i h1
 rw [List.getD_eq_getElem?_getD, List.getD_eq_getElem?_getD, List.getElem?_eq_getElem h1, List.getElem?_eq_getElem h2] at this
 exact this
theorem qf1 {α : Type} {f g : Nat → List α} : ∀ k, (∀ i, i < k → (f i).length = (g i).length) → upF k f = upF k g → ∀ i, i < k → f i = g i
 | 0, _, _ => fun i hi => absurd hi (Nat.not_lt_zero i)
 | k + 1, hl, h => fun i hi => by
  rw [qw, qw] at h
  obtain ⟨h1, h2⟩ := List.append_inj' h (hl k (Nat.lt_succ_self k))
  rcases Nat.lt_or_ge i k with h3 | h3
  ·exact qf1 k (fun j hj => hl j om) h1 i h3
  ·obtain rfl : i = k := by omega
   exact h2
theorem qdm {x y : Int} (hx : 0 ≤ x ∧ x < 9223372036854775808) (hy : 0 ≤ y ∧ y < 9223372036854775808) (h : toU x = toU y) : x = y := by unfold toU at h; omega
theorem qjb {l m : List Int} (hl : l.length = m.length) (h1 : ∀ i, i < l.length → 0 ≤ l.getD i 0 ∧ l.getD i 0 < 9223372036854775808) (h2 : ∀ i, i < m.length → 0 ≤ m.getD i 0 ∧ m.getD i 0 < 9223372036854775808) (h : l.map toU = m.map toU) : l = m := by
 refine qf0 0 hl fun i hi => qdm (h1 i hi) (h2 i om) ?_
 have h3 : (l.map toU)[i]? = (m.map toU)[i]? := by rw [h]
 rw [List.getElem?_map, List.getElem?_map, getD_at 0 hi, getD_at 0 (show i < m.length by omega)] at h3
 injection h3
theorem q9d {p : Int} {t u : Tk} {c d : Int} {n m : Nat} (ht : TkGood t c n) (hu : TkGood u d m) (hp : 0 ≤ p ∧ p < t.id ∧ p < u.id) (hn : n ≤ 1000000 ∧ m ≤ 1000000 ∧ c ≤ 64 ∧ d ≤ 64) (h : tkN p t = tkN p u) : t = u := by
 unfold tkN at h
 simp only [List.cons.injEq, and_true] at h
 obtain ⟨h1, h2, h3, h4, h5, h6, h7, h8⟩ := h
 have a1 := qdm (by have := ht.id; omega) (by have := hu.id; omega) h1
 have a2 := qdm (by have := ht.group; omega) (by have := hu.group; omega) h2
 have a3 := qdm (by have := ht.weight; omega) (by have := hu.weight; omega) h3
 have a4 := qdm (by have := ht.cpu; omega) (by have := hu.cpu; omega) h4
 have a6 : t.ready = u.ready := by
  cases h9 : t.ready <;> cases h10 : u.ready <;> rw [h9, h10] at h6 <;> first | rfl | (exact absurd h6 de)
 cases t; cases u
 simp only at a1 a2 a3 a4 h5 a6 h7 h8
 rw [Tk.mk.injEq]
 exact ⟨by omega, a2, a3, a4, h5, a6, h7, h8⟩
theorem q9e {s s' : Sta} {g : Nat} {x y : Sp} (hx : spOk s g x = true) (hy : spOk s' g y = true) (h : spN g x = spN g y) : x = y := by
 unfold spOk at hx hy
 rw [Bool.and_eq_true, Bool.or_eq_true, decide_eq_true_eq, bne_iff_ne] at hx hy
 cases x; cases y
 rw [Sp.mk.injEq]
 rcases Nat.eq_zero_or_pos g with h0 | h0
 ·rw [qhl om, qhl om] at h
  injection h with h
  have h1 := hx.2.resolve_left om
  have h2 := hy.2.resolve_left om
  simp only at h1 h2 h
  omega
 ·rw [qpr h0, qpr h0] at h
  simp only [List.cons_append, List.nil_append, List.cons.injEq, and_true] at h
  exact h
theorem q9f {x y : Gr} (h1 : x.parent = y.parent) (h2 : x.weight = y.weight) : x = y := by
 cases x; cases y
 rw [Gr.mk.injEq]
 exact ⟨h1, h2⟩
theorem qzl {l : List Tk} (hs : SortT l) {i : Nat} (hi : i < l.length) (h1 : ∀ t ∈ l, 1 ≤ t.id) : 0 ≤ qq l i ∧ qq l i < (l.getD i Tk.zero).id := by
 unfold qq
 split
 ·have := h1 _ (qg Tk.zero hi); omega
 ·have := h1 _ (qg Tk.zero (show i - 1 < l.length by omega))
  have := hs (i - 1) i om hi
  omega
theorem q4u {s : Sta} (h : GoodS s) {c : Nat} (hc : c < s.cu.length) : 0 ≤ s.cu.getD c 0 ∧ s.cu.getD c 0 < 9223372036854775808 := by
 rcases h.cur c hc with h1 | ⟨t, ht, h1, _⟩
 ·rw [h1]; decide
 ·have := (h.sh.tasks t ht).id; omega
theorem qsp (g : Nat) (z z' : Sp) : (spN g z).length = (spN g z').length := by
 unfold spN
 split <;> rfl
theorem q3d (g : Nat) {l m : List Sp} (h : l.length = m.length) : (rwN g l).length = (rwN g m).length := by
 unfold rwN
 rw [h]
 have key : ∀ k, (upF k fun c => spN g (l.getD c Sp.zero)).length = (upF k fun c => spN g (m.getD c Sp.zero)).length := fun k => by
  induction k with
  | zero => rfl
  | succ k ih => rw [qw, qw, List.length_append, List.length_append, ih, qsp]
 exact key _
theorem q3e {a b : Snm} (ha : chkS a = 0) (hb : chkS b = 0) (oa : a.st.sta.Ok) (ob : b.st.sta.Ok) (h : numsS a = numsS b) : SnEq a b := by
 obtain ⟨na, ra⟩ := qro ha
 obtain ⟨nb, rb⟩ := qro hb
 have GA := qgu oa ra
 have GB := qgu ob rb
 have SA := GA.sh
 have SB := GB.sh
 have ca := SA.cpus; have cb := SB.cpus
 have la : (a.st.cl.length : Int) = a.st.cpus := SA.cl
 have lb : (b.st.cl.length : Int) = b.st.cpus := SB.cl
 have ua : (a.st.cu.length : Int) = a.st.cpus := SA.cu
 have ub : (b.st.cu.length : Int) = b.st.cpus := SB.cu
 have ea : a.st.rs.length = a.st.gs.length := by rw [← qa8]; exact SA.sp
 have eb : b.st.rs.length = b.st.gs.length := by rw [← qa8]; exact SB.sp
 replace ca : 1 ≤ a.st.cpus ∧ a.st.cpus ≤ 64 := ca
 replace cb : 1 ≤ b.st.cpus ∧ b.st.cpus ≤ 64 := cb
 rw [qfu, qfu] at h
 simp only [List.append_assoc] at h
 obtain ⟨h0, h⟩ := List.append_inj h rfl
 obtain ⟨h1, h⟩ := List.append_inj h rfl
 simp only [secN, List.cons.injEq, and_true] at h0 h1
 have e0 : a.next = b.next := qdm om om h0
 obtain ⟨h1a, e2, e3⟩ := h1
 have e1 : a.st.cpus = b.st.cpus := qdm om om h1a
 obtain ⟨h2, h⟩ := List.append_inj h (by show (upF _ _).length = (upF _ _).length; rw [qfv (m := 2) (fun i => rfl), qfv (m := 2) (fun i => rfl), e3])
 obtain ⟨h3, h⟩ := List.append_inj h (by show (List.map _ _).length = (List.map _ _).length; rw [List.length_map, List.length_map]; omega)
 obtain ⟨h4, h⟩ := List.append_inj h (by show (List.map _ _).length = (List.map _ _).length; rw [List.length_map, List.length_map]; omega)
 have e7 : a.st.ts.length = b.st.ts.length := by
  have h5 : (a.st.ts.length :: _) = (b.st.ts.length :: _) := h
  injection h5
 obtain ⟨h5, h6⟩ := List.append_inj h (by show (_ :: upF _ _).length = (_ :: upF _ _).length; rw [List.length_cons, List.length_cons, qfv (m := 8) (fun i => rfl), qfv (m := 8) (fun i => rfl), e7])
 have ag : gsOk a.st.gs = true := SA.gs
 have bg : gsOk b.st.gs = true := SB.gs
 have ga := qr ag; have gb := qr bg
 have eg : a.st.gs = b.st.gs := by
  refine qf0 Gr.zero e3 fun i hi => ?_
  rcases Nat.eq_zero_or_pos i with rfl | hpos
  ·exact ga.2.2.1.trans gb.2.2.1.symm
  ·have h8 := qf1 (f := gsN a.st.gs) (g := gsN b.st.gs) (a.st.gs.length - 1) (fun i hi => rfl) (h2.trans (by show upF _ _ = _; rw [e3])) (i - 1) om
   unfold gsN at h8
   rw [Nat.sub_add_cancel hpos] at h8
   simp only [List.cons.injEq, and_true] at h8
   have hpa := qa5 ag (g := i) hi i hpos (Nat.le_refl _)
   have hpb := qa5 bg (g := i) om i hpos (Nat.le_refl _)
   unfold ParB at hpa hpb
   obtain ⟨wa, hwa, hwa1, hwa2⟩ := qc4 ag (g := i) hi
   obtain ⟨wb, hwb, hwb1, hwb2⟩ := qc4 bg (g := i) om
   exact q9f (qdm om om h8.1) (qdm om om h8.2)
 have ecl : a.st.cl = b.st.cl := qjb om
  (fun i hi => by have h9 : 0 ≤ a.st.cl.getD i 0 ∧ a.st.cl.getD i 0 ≤ 281474976710656 := of_decide_eq_true (SA.cls i hi); omega)
  (fun i hi => by have h9 : 0 ≤ b.st.cl.getD i 0 ∧ b.st.cl.getD i 0 ≤ 281474976710656 := of_decide_eq_true (SB.cls i hi); omega) h3
 have ecu : a.st.cu = b.st.cu := qjb om (fun i hi => q4u GA hi) (fun i hi => q4u GB hi) h4
 have sla : a.st.sta.sp.length = a.st.rs.length := qa8 _
 have slb : b.st.sta.sp.length = b.st.rs.length := qa8 _
 have et : a.st.ts = b.st.ts := by
  have h5b : (a.st.ts.length :: upF a.st.ts.length fun i => tkN (qq a.st.ts i) (a.st.ts.getD i Tk.zero)) = (b.st.ts.length :: upF b.st.ts.length fun i => tkN (qq b.st.ts i) (b.st.ts.getD i Tk.zero)) := h5
  injection h5b with _ h5b
  rw [← e7] at h5b
  have h8 : ∀ i, i < a.st.ts.length → tkN (qq a.st.ts i) (a.st.ts.getD i Tk.zero) = tkN (qq b.st.ts i) (b.st.ts.getD i Tk.zero) := qf1 (f := fun i => tkN (qq a.st.ts i) (a.st.ts.getD i Tk.zero)) (g := fun i => tkN (qq b.st.ts i) (b.st.ts.getD i Tk.zero)) a.st.ts.length (fun i _ => rfl) h5b
  refine qf0 Tk.zero e7 fun i hi => ?_
  induction i using Nat.strongRecOn with
  | _ i ih =>
   have hp : qq b.st.ts i = qq a.st.ts i := by
    unfold qq
    split
    ·rfl
    ·rw [ih (i - 1) om om]
   have h9 := h8 i hi
   rw [hp] at h9
   have pa := qzl SA.sort hi fun t ht => (SA.tasks t ht).id.1
   have pb := qzl SB.sort (show i < b.st.sta.ts.length by show i < b.st.ts.length; omega) fun t ht => (SB.tasks t ht).id.1
   have pb2 : qq b.st.ts i < (b.st.ts.getD i Tk.zero).id := pb.2
   rw [hp] at pb2
   exact q9d (SA.tasks _ (qg Tk.zero hi)) (SB.tasks _ (qg Tk.zero (show i < b.st.sta.ts.length by show i < b.st.ts.length; omega))) ⟨pa.1, pa.2, pb2⟩ ⟨by omega, by omega, ca.2, cb.2⟩ h9
 have er : rowsL a.st = rowsL b.st := by
  refine qf0 [] (by rw [qa8, qa8]; omega) fun g hg => ?_
  have hga : g < a.st.rs.length := by rwa [qa8] at hg
  have hgb : g < b.st.rs.length := by omega
  have ka : ∀ g, g < a.st.rs.length → ((a.st.rs.getD g Rw.zero).l.length : Int) = a.st.cpus := fun g h => by rw [← qdk h]; exact SA.rows g (by rw [sla]; exact h)
  have kb : ∀ g, g < b.st.rs.length → ((b.st.rs.getD g Rw.zero).l.length : Int) = b.st.cpus := fun g h => by rw [← qdk h]; exact SB.rows g (by rw [slb]; exact h)
  have kl : ∀ g, g < a.st.rs.length → (a.st.rs.getD g Rw.zero).l.length = (b.st.rs.getD g Rw.zero).l.length := fun g h => by have := ka g h; have := kb g om; omega
  have h6b : upF a.st.rs.length (fun g => rwN g (a.st.rs.getD g Rw.zero).l) = upF b.st.rs.length (fun g => rwN g (b.st.rs.getD g Rw.zero).l) := h6
  rw [show b.st.rs.length = a.st.rs.length by omega] at h6b
  have h8 : rwN g (a.st.rs.getD g Rw.zero).l = rwN g (b.st.rs.getD g Rw.zero).l := qf1 (f := fun g => rwN g (a.st.rs.getD g Rw.zero).l) (g := fun g => rwN g (b.st.rs.getD g Rw.zero).l) a.st.rs.length (fun i hi => q3d i (kl i hi)) h6b g hga
  rw [qdk hga, qdk hgb]
  refine qf0 Sp.zero (kl g hga) fun c hc => ?_
  unfold rwN at h8
  rw [← kl g hga] at h8
  have h9 : spN g ((a.st.rs.getD g Rw.zero).l.getD c Sp.zero) = spN g ((b.st.rs.getD g Rw.zero).l.getD c Sp.zero) := qf1 (f := fun c => spN g ((a.st.rs.getD g Rw.zero).l.getD c Sp.zero)) (g := fun c => spN g ((b.st.rs.getD g Rw.zero).l.getD c Sp.zero)) _ (fun c _ => qsp g _ _) h8 c hc
  have pa := SA.spots g c (by rw [sla]; exact hga) (by have := ka g hga; show (c : Int) < a.st.cpus; omega)
  have pb := SB.spots g c (by rw [slb]; exact hgb) (by have := kb g hgb; have := kl g hga; show (c : Int) < b.st.cpus; omega)
  unfold Sta.spot at pa pb
  rw [show a.st.sta.sp.getD g [] = _ from qdk hga] at pa
  rw [show b.st.sta.sp.getD g [] = _ from qdk hgb] at pb
  exact q9e pa pb h9
 exact ⟨e0, e1, e2, eg, ecl, ecu, et, er⟩
structure SnRight (a : Snm) : Prop where
 chk : chkS a = 0
 ok : a.st.sta.Ok
 few : StFew a.st
 cap : StCap a.st
theorem q66 {q : Stm} {s : Sta} {nx : Int} (hq : q.sta = s) (hG : GoodS s) (hR : zo s = true) (hn : 1 ≤ nx ∧ nx ≤ 281474976710657) (hc : StCap q) : SnRight ⟨nx, q⟩ := by
 subst hq
 have h := qlw hG.sh
 exact ⟨qnp (by show ¬ (nx < 1 ∨ 281474976710657 < nx); omega) hR, h.ok, h.few, hc⟩
def q4w (w : World) (x : Int) (r : Ending) (w' : World) : Prop := ∃ a : Snm, r = .returned (.tuple #[.agg a.cells, .bool true]) ∧ SnRight a ∧ GoodS a.st.sta ∧ IdsIn 12 a.st.ts ∧ (0 ≤ x ∧ x < 281474976710657 → a.next = 1 + x) ∧ Mem w w' (stF a.st)
theorem q67 {w w' : World} {q : Stm} {s : Sta} {nx x : Int} (hq : q.sta = s) (hG : GoodS s) (hR : zo s = true) (hI : IdsIn 12 s.ts) (hn : 1 ≤ nx ∧ nx ≤ 281474976710657) (hc : StCap q) (hx : 0 ≤ x ∧ x < 281474976710657 → nx = 1 + x) (hm : Mem w w' (stF q)) : q4w w x (.returned (.tuple #[.agg (Snm.cells ⟨nx, q⟩), .bool true])) w' :=
 ⟨⟨nx, q⟩, rfl, q66 hq hG hR hn hc, by subst hq; exact hG, by subst hq; exact hI, hx, hm⟩
section
variable {a b : Snm} {w : World} {B : Nat}
theorem SnRight.sh (h : SnRight a) : GoodS a.st.sta := qgu h.ok (qro h.chk).2
theorem cw_ok (h : SnRight a) (hL : LaidX B w) (hB : B ≤ w.heap.size) (hx : StRd w a.st) : Calls Tryz.prog 13 #[.agg a.cells] w (qgn w 0 (sealL (bodyS a))) := by
 have k := qvj a h.ok h.few h.cap B w hL hB hx
 rwa [h.chk, qxe h.chk] at k
theorem qzp : ∀ l : List Nat, l.length ≤ (l.flatMap vbytes).length
 | [] => Nat.le_refl _
 | x :: l => by
  have := qzp l
  have := qed x
  rw [List.flatMap_cons, List.length_append, List.length_cons]
  omega
theorem SnRight.len (h : SnRight a) : 15 ≤ (sealL (bodyS a)).length ∧ (sealL (bodyS a)).length ≤ 6000007 := by
 refine ⟨?_, qrp (qxd h.chk)⟩
 have S := h.sh.sh
 have h1 : 1 ≤ a.st.cpus := S.cpus.1
 have h2 : (a.st.cl.length : Int) = a.st.cpus := S.cl
 have h3 : (a.st.cu.length : Int) = a.st.cpus := S.cu
 have h4 : 1 ≤ a.st.gs.length := (qr S.gs).1
 have h5 : a.st.rs.length = a.st.gs.length := by rw [← qa8]; exact S.sp
 have h6 : ((a.st.rs.getD 0 Rw.zero).l.length : Int) = a.st.cpus := by rw [← qdk (show 0 < a.st.rs.length by omega)]; exact S.rows 0 (by show 0 < (rowsL a.st).length; rw [qa8]; omega)
 have h7 : 1 ≤ (secN a 6).length := by
  show 1 ≤ (upF a.st.rs.length _).length
  refine Nat.le_trans ?_ (qlp (i := 1) om)
  rw [qw, qfq]
  show 1 ≤ (rwN 0 (a.st.rs.getD 0 Rw.zero).l).length
  unfold rwN
  refine Nat.le_trans ?_ (qlp (i := 1) om)
  rw [qw, qfq, qhl de]
  exact Nat.le_refl _
 have h8 := qzp (numsS a)
 have h9 : 8 ≤ (numsS a).length := by
  rw [qfu]
  simp only [List.length_append]
  have e0 : (secN a 0).length = 1 := rfl
  have e1 : (secN a 1).length = 3 := rfl
  have e3 : (secN a 3).length = a.st.cl.length := List.length_map ..
  have e4 : (secN a 4).length = a.st.cu.length := List.length_map ..
  have e5 : 1 ≤ (secN a 5).length := by show 1 ≤ (_ :: _ : List Nat).length; rw [List.length_cons]; omega
  omega
 rw [qci, qlr]
 omega
theorem qzq {l m : List Nat} (h : sealL l = sealL m) : l = m := by
 unfold sealL at h
 exact (List.append_inj' h (by rw [qlj, qlj])).1
theorem SnRight.nums (ha : SnRight a) (hb : SnRight b) : numsS a = numsS b ↔ SnEq a b := ⟨fun h => q3e ha.chk hb.chk ha.ok hb.ok h, fun h => by
 have h1 := q1t h
 rwa [qcm ha.chk, qcm hb.chk, eq_comm] at h1⟩
theorem q3g (h : numsS a = numsS b) : bodyS a = bodyS b := by unfold bodyS; rw [h]
theorem SnRight.out (ha : SnRight a) (hb : SnRight b) : sealL (bodyS a) = sealL (bodyS b) ↔ SnEq a b := by
 rw [← ha.nums hb]
 refine ⟨fun h => ?_, fun h => by rw [q3g h]⟩
 have h1 := qzq h
 unfold bodyS at h1
 exact qor (qlq ha.ok ha.few) (qlq hb.ok hb.few) (List.append_cancel_left h1)
end
theorem qjj (x : Int) : -281474976710657 < Int.tmod x 281474976710657 ∧ Int.tmod x 281474976710657 < 281474976710657 := ⟨Int.lt_tmod_of_pos x de, Int.tmod_lt_of_pos x de⟩
def q92 (w : World) (x : Int) (r : Ending) (w' : World) : Prop := (∃ z : Int, r = .returned (vI z) ∧ 0 ≤ z ∧ z < 281474976710657 ∧ (0 ≤ x ∧ x < 281474976710657 → z = x)) ∧ Below w.heap.size w w'
theorem q7z {n : Nums} : IdsIn 12 n.new.ts := fun t ht => by cases ht
theorem qvr (x : Int) (hI : I64 x) (w : World) :
    Calls Tryz.prog 22 #[vI x, vI 281474976710657] w (q92 w x) := by
 unfold I64 at hI
 have hbd := qjj x
 refine (JN2 Tryz.func22 16) ?_
 refine (JP∘Jp 1∘Jj∘JQ∘JP∘Jv 2 [(6, .bool false)]∘Jj∘JF∘JS'∘JP∘Jp 4∘Jd3∘Jj∘JQ∘JP∘Jp 2∘Jd1∘Jj) (Ji (fun hd11 => ?_) fun hd11 => ?_)
 ·
  exact (JT∘JR∘Jp 3∘Jo (vI ((Int.tmod x 281474976710657) + 281474976710657)) (by exact qdx ⟨by omega, by omega⟩)∘Jp 1∘Jd3∘Jr∘Jp 2∘Jd1∘Jj∘JZ∘Jz1) fun I => by exact ⟨⟨_, rfl, by have := qjj x; omega, by have := qjj x; omega, fun h => by have := Int.tmod_eq_of_lt h.1 h.2; omega⟩, I.below⟩
 exact (JF∘JS'∘JP∘Jp 2∘Jd1∘Jj∘JZ∘Jz1) fun I => by exact ⟨⟨_, rfl, by have := qjj x; omega, by have := qjj x; omega, fun h => by have := Int.tmod_eq_of_lt h.1 h.2; omega⟩, I.below⟩
theorem qvs (n : Nums) (hn : n.Ok) (A : Option Addr) (c_ : Nat) (l : List Sml) (hl : ∀ x ∈ l, x.Ok) (hc : l.length ≤ c_) (hnl : l.length ≤ 9223372036854775807) (nx : Int) (hIx : I64 nx) (w : World) (hr : Rd w w.heap.size 8 A l.length (l.flatMap sml)) :
    Calls Tryz.prog 12 #[.agg n.cells, .slice A l.length c_, vI nx] w (q4w w nx) := by
 have hsl := qy4 l 60
 refine (JN3 Tryz.func12 50) ?_
 refine (JP∘JE) fun w3 g3 => (JA #[vI 0, vI 0, vQ 0, vN, vN, vN, vN, vN]) fun w6 g6 => (Jp 1∘Jr∘Jy (v := .agg n.cells) (h:=by exact Yl.loadS rfl rfl qy1 (qoe hn) (fun _ h => qb (h.blk (i := 1) rfl)))∘JK (h:=by exact fun I => qu3 n hn _)) fun A16 c16 w16 hc16 => (JL (h:=by exact fun I => q6r (Nums.cfg hn) (I.rd (i := 0) rfl))) ?_
 rintro I _ w17 ⟨gm, x, rfl, hx, hm⟩
 refine ⟨_, rfl, _, (show Mem w w17 (.row (.slice A16 n.gs.length c16) n.gs.length (n.gs.flatMap grL) 110 2 :: .blk g6 #[vI 0, vI 0, vQ 0, vN, vN, vN, vN, vN] 40 :: .blk g3 n.cells 27 :: (mdB gm x ++ ([]))) from I.joinF 3 hm rfl), ?_⟩
 refine (Jp 1∘Jx∘Jx∘Jp 2∘Jj∘JQ∘JP∘Jv 4 [(23, vP gm 0), (22, .bool false)]∘Jy (v := .bool false) (h:=by exact Yl.q0p rfl rfl rfl)∘Jp 1∘Jd4∘Jj∘JF∘JS'∘JQ∘JP∘Jp 1∘JK (h:=by exact fun I => qu4 A c_ l 60 _ hl (I.old hr) hc hnl de)) fun A28 c28 w28 hc28 => (Jl∘Jp 1∘Jj∘JB) fun a Z I => ?_
 refine qe (fun mS aS wS => ∃ (k : Nat) (x : Stm) (s : Sta), (k ≤ (zc l 60).length) ∧ (x.sta = s) ∧ (GoodS s) ∧ (zo s = true) ∧ (IdsIn 12 s.ts) ∧ mS = (zc l 60).length - k ∧ Fr aS 50 [] [(30, vI k), (29, vI ((zc l 60).length : Nat)), (28, .slice A28 ((zc l 60).length) c28), (25, .bool false), (8, vP gm 0), (7, .bool false), (6, vP g6 0), (2, vI nx)] ∧ Mem w wS (.row (.slice A28 ((zc l 60).length) c28) ((zc l 60).length) ((zc l 60).flatMap opL) 98 8 :: .blk g6 #[vI 0, vI 0, vQ 0, vN, vN, vN, vN, vN] 40 :: (mdB gm x ++ ([])))) (m := (zc l 60).length - 0) ⟨0, x, n.new, Nat.zero_le _, hx, (Nums.good hn).1, (Nums.good hn).2, q7z, rfl, Z.sub kr, I.pt 4 [0, 2]⟩ ?_
 clear Z I; rintro mS a w_ ⟨k, x, s, hk, hx, hG, hR, hD, rfl, Z, I⟩
 refine Jb Z I ((JP∘Jp 1∘Jj∘JQ) (Ju (fun hb31 => ?_) fun hb31 => ?_))
 ·
  intro a Z I
  have hd31 := of_decide_eq_true hb31
  have hkl : k < (zc l 60).length := by omega
  obtain ⟨o, ho⟩ : ∃ z, (zc l 60).getD k Op30.zero = z := ⟨_, rfl⟩
  have hom := qg Op30.zero hkl
  rw [ho] at hom
  have hoo : o.Ok := qy0 hl _ hom
  have hot : o.task ≤ 12 := qqm _ hom
  refine Jb Z I ((JT∘JS'∘JQ∘JB∘JP) ?_)
  repeat (first | clear Z | clear I)
  intro a Z I
  obtain ⟨gA28, rfl⟩ := qm (I.own (i := 0) rfl) (Nat.lt_of_le_of_lt (Nat.zero_le _) (show k < (zc l 60).length from by omega))
  refine Jb Z I ((Jy (h:=by exact Yl.ix0 gA28 k 8 rfl rfl rfl)∘Jy (v := .agg (((zc l 60).getD k Op30.zero).cells)) (h:=by exact Yl.loadS rfl rfl si_op rfl (fun _ h => h.qge q6p (i := 0) rfl ((getD_at Op30.zero hkl))))∘Jo (.agg o.cells) (by rw [ho])∘JA #[vB 0, vI 0, vI 0, vI 0, vI 0, vI 0, vI 0, vQ 0]) fun w11 g11 => (JV si_op O0' (h1:=by exact q4m o)) fun w6_3 => (Jd2∘Jj∘JR∘Jp 1∘Jy (v := .agg o.cells) (h:=by exact Yl.loadS rfl rfl si_op rfl (fun _ h => qb (h.blk (i := 0) rfl)))∘JL (h:=by exact fun I => do_s 3 I rfl hx hG hoo)) ?_)
  rintro I _ w36 ⟨y, rfl, hy, HM2⟩
  refine ⟨_, rfl, _, (show Mem w w36 (.blk g11 o.cells 98 :: .row (vS gA28 ((zc l 60).length) c28) ((zc l 60).length) ((zc l 60).flatMap opL) 98 8 :: .blk g6 #[vI 0, vI 0, vQ 0, vN, vN, vN, vN, vN] 40 :: (mdB gm y ++ ([]))) from HM2.back), ?_⟩
  refine (Jt3∘Jj∘JR∘JaK 1∘Jp 1∘Jd1∘Jq) fun a Z I => ?_
  exact ⟨_, om, k + 1, y, (doS s o).1, by omega, hy, q2s hoo hG, q2t hoo hG hR, q9g hot hD, rfl, Z.sub kr, I.pt 3 [1, 2]⟩
 intro a Z I
 have hd31 := of_decide_eq_false hb31
 refine Jb Z I ((JF∘JX∘JG∘JP∘Jp 1∘JL (h:=by exact fun I => q6u 2 I rfl hx hG)) ?_)
 rintro I _ w40 ⟨p, rfl, hp, hcapp, hm⟩
 refine ⟨_, rfl, _, (show Mem w w40 (.row (.slice A28 ((zc l 60).length) c28) ((zc l 60).length) ((zc l 60).flatMap opL) 98 8 :: .blk g6 #[vI 0, vI 0, vQ 0, vN, vN, vN, vN, vN] 40 :: (stF p ++ (mdB gm x ++ ([])))) from I.joinF (T := (mdB gm x ++ ([]))) 2 hm rfl), ?_⟩
 refine (Jp 1∘Jx∘Jx∘JA #[vI 0, vQ 0, vN, vN, vN, vN, vN]) fun w12 g12 => (JV si_st O0' (h1:=by exact qws p)) fun w9_6 => (Jp 1∘Jj) fun a Z I => ?_
 refine wp_seq ?_
 refine Jb Z I ((Vs .n [7]) fun wd10 => (Vq [0, 5, 6] [(49, .bool true), (43, vI nx)]∘Vy 3 (v := .agg p.cells) (h:=by exact Yl.loadS rfl rfl si_st rfl (fun _ h => qb (h.blk (i := 0) rfl)))) fun a Z I HS => ?_)
 refine s_on Z 1 rfl ?_
 refine e_cl Z [vI nx, vI 281474976710657] rfl rfl (qvr nx hIx _) ?_
 rintro _ w44 ⟨⟨z, rfl, hz1, hz2, hz3⟩, hbw⟩
 refine ⟨_, rfl, ?_⟩
 replace I := I.call hbw
 clear Z; intro a Z
 refine keepS (I.pt 3 [0, 1, 2]) (fun HS => ?_)
 refine Vb Z I HS ((Vp [2]∘Vo (vI (1 + z)) (by exact qdx ⟨by omega, by omega⟩)∘Vy 4 (v := .agg #[vI (1 + z), vI p.cpus, vQ p.credit, .slice p.gA p.gs.length p.gc, .slice p.lA p.cl.length p.lc, .slice p.uA p.cu.length p.uc, .slice p.tA p.ts.length p.tc, .slice p.sA p.rs.length p.sc]) (h:=by exact Yl.build (vs := [(0, vI (1 + z)), (1, .agg p.cells)]) rfl kr kr)) fun a Z I HS => ?_)
 refine s_on Z 7 rfl (e_sa Z I 2 rfl rfl rfl rfl rfl zb rfl rfl (by simp [Value.oneCell']) ?_)
 clear I; intro w10_7 I
 refine noS kr ?_
 refine ap Z (pastS kr) [8] (bt 9 []) [(7, .bool true)] fun a Z => ?_
 refine qc kr ?_
 refine Jb Z I ((JZ) fun a Z I => ?_)
 exact ret2 rfl Z (.cellS (i := 2) Z I rfl rfl zb rfl) (.tmp Z rfl) (q67 (nx := 1 + z) hp hG hR hD ⟨by omega, by omega⟩ hcapp (fun h => by rw [hz3 h]) ((I.dropN 3 rfl).subl (List.sublist_append_left ..)))
structure Pr where
 nx : Nat
 cp : Nat
 cr : Nat
 gp : Nat
 gs : List Nat
 cl : List Nat
 cu : List Nat
 tk : Nat
 ts : List Nat
 sp : List Nat
 e1 : Nat
 e2 : Nat
 e3 : Nat
 e4 : Nat
 e5 : Nat
 e6 : Nat
 e7 : Nat
section
variable {α : Type} {b : List Nat} {a x n u : Nat} {xs : List Nat}
def num1 (b : List Nat) (a : Nat) (k : Nat → Nat → Except Nat α) : Except Nat α := if (vread (b.drop a)).2.2 ≠ 0 then .error 344 else k (vread (b.drop a)).1 (a + (vread (b.drop a)).2.1)
def numK (b : List Nat) (n a : Nat) (k : List Nat → Nat → Except Nat α) : Except Nat α := if (readN n (b.drop a)).2.2 ≠ 0 then .error 344 else k (readN n (b.drop a)).1 (a + (readN n (b.drop a)).2.1)
def cnt1 (b : List Nat) (a lo hi : Nat) (k : Nat → Nat → Except Nat α) : Except Nat α := num1 b a fun x e => if x < lo ∨ hi < x then .error 345 else k x e
theorem qqk {k : Nat → Nat → Except Nat α} (h : vread (b.drop a) = (x, n, 0)) : num1 b a k = k x (a + n) := by unfold num1; rw [h]; rfl
theorem qmf {k : Nat → Nat → Except Nat α} (h : (vread (b.drop a)).2.2 ≠ 0) : num1 b a k = .error 344 := if_pos h
theorem q62 {k : List Nat → Nat → Except Nat α} (h : readN n (b.drop a) = (xs, u, 0)) : numK b n a k = k xs (a + u) := by unfold numK; rw [h]; rfl
theorem qgx {k : List Nat → Nat → Except Nat α} (h : (readN n (b.drop a)).2.2 ≠ 0) : numK b n a k = .error 344 := if_pos h
theorem q63 {k : Nat → Nat → Except Nat α} {lo hi : Nat} (h : vread (b.drop a) = (x, n, 0)) (h2 : ¬ (x < lo ∨ hi < x)) : cnt1 b a lo hi k = k x (a + n) := by unfold cnt1; rw [qqk h, if_neg h2]
theorem q25 {k : Nat → Nat → Except Nat α} {lo hi : Nat} (h : vread (b.drop a) = (x, n, 0)) (h2 : x < lo ∨ hi < x) : cnt1 b a lo hi k = .error 345 := by unfold cnt1; rw [qqk h, if_pos h2]
theorem qmg {k : Nat → Nat → Except Nat α} {lo hi : Nat} (h : (vread (b.drop a)).2.2 ≠ 0) : cnt1 b a lo hi k = .error 344 := qmf h
theorem q26 (b : List Nat) (a : Nat) : (vread (b.drop a)).2.2 ≠ 0 ∨ ∃ x n, vread (b.drop a) = (x, n, 0) := by
 by_cases h : (vread (b.drop a)).2.2 = 0
 ·exact .inr ⟨(vread (b.drop a)).1, (vread (b.drop a)).2.1, by rw [← h]⟩
 ·exact .inl h
theorem q27 (b : List Nat) (k a : Nat) : (readN k (b.drop a)).2.2 ≠ 0 ∨ ∃ xs u, readN k (b.drop a) = (xs, u, 0) := by
 by_cases h : (readN k (b.drop a)).2.2 = 0
 ·exact .inr ⟨(readN k (b.drop a)).1, (readN k (b.drop a)).2.1, by rw [← h]⟩
 ·exact .inl h
theorem qsk (ha : a ≤ b.length) (h : vread (b.drop a) = (x, n, 0)) : 0 < n ∧ a + n ≤ b.length := by
 have h1 := qi8 (b.drop a)
 have h2 := qoi (b.drop a) (by rw [h])
 rw [h] at h1 h2
 rw [List.length_drop] at h1
 exact ⟨h2, by simp only at h1; omega⟩
theorem q28 (ha : a ≤ b.length) (h : readN n (b.drop a) = (xs, u, 0)) : xs.length = n ∧ n ≤ u ∧ a + u ≤ b.length := by
 have h1 := qsi _ _ _ _ h
 rw [List.length_drop] at h1
 omega
theorem qzf {l : List Nat} {er : Nat} (h : vread l = (x, n, er)) (h2 : (er : Int) ≠ 0) : (vread l).2.2 ≠ 0 := by rw [h]; show er ≠ 0; omega
theorem qzg (hl : ∀ z ∈ b, z < 256) (h : vread (b.drop a) = (x, n, 0)) : x < 18446744073709551616 := by
 have := qi9 (b.drop a) fun z hz => hl z (List.mem_of_mem_drop hz)
 rwa [h] at this
end
def NumAt (b : List Nat) (p x e : Nat) : Prop := vread (b.drop p) = (x, e - p, 0) ∧ p ≤ e
def zm (b : List Nat) (n p : Nat) (xs : List Nat) (e : Nat) : Prop := readN n (b.drop p) = (xs, e - p, 0) ∧ p ≤ e
section
variable {α : Type} {b : List Nat} {p x e n : Nat} {xs : List Nat}
theorem NumAt.eq (h : NumAt b p x e) : p + (e - p) = e := by have := h.2; omega
theorem zm.eq (h : zm b n p xs e) : p + (e - p) = e := by have := h.2; omega
theorem NumAt.of {m : Nat} (h : vread (b.drop p) = (x, m, 0)) : NumAt b p x (p + m) := ⟨by rw [h, Nat.add_sub_cancel_left], by omega⟩
theorem zm.of {m : Nat} (h : readN n (b.drop p) = (xs, m, 0)) : zm b n p xs (p + m) := ⟨by rw [h, Nat.add_sub_cancel_left], by omega⟩
theorem qky (b : List Nat) (p : Nat) : (vread (b.drop p)).2.2 ≠ 0 ∨ ∃ x e, NumAt b p x e := by
 rcases q26 b p with h | ⟨x, n, h⟩
 ·exact .inl h
 ·exact .inr ⟨x, _, .of h⟩
theorem qgy (b : List Nat) (n p : Nat) : (readN n (b.drop p)).2.2 ≠ 0 ∨ ∃ xs e, zm b n p xs e := by
 rcases q27 b n p with h | ⟨xs, u, h⟩
 ·exact .inl h
 ·exact .inr ⟨xs, _, .of h⟩
theorem NumAt.go1 {k : Nat → Nat → Except Nat α} (h : NumAt b p x e) : num1 b p k = k x e := by rw [qqk h.1, h.eq]
theorem zm.goK {k : List Nat → Nat → Except Nat α} (h : zm b n p xs e) : numK b n p k = k xs e := by rw [q62 h.1, h.eq]
theorem NumAt.goC {k : Nat → Nat → Except Nat α} {lo hi : Nat} (h : NumAt b p x e) (h2 : ¬ (x < lo ∨ hi < x)) : cnt1 b p lo hi k = k x e := by rw [q63 h.1 h2, h.eq]
theorem NumAt.bad {k : Nat → Nat → Except Nat α} {lo hi : Nat} (h : NumAt b p x e) (h2 : x < lo ∨ hi < x) : cnt1 b p lo hi k = .error 345 := q25 h.1 h2
theorem NumAt.in (h : NumAt b p x e) (hp : p ≤ b.length) : p < e ∧ e ≤ b.length := by have := qsk hp h.1; have := h.2; omega
theorem zm.in (h : zm b n p xs e) (hp : p ≤ b.length) : xs.length = n ∧ p + n ≤ e ∧ e ≤ b.length := by have := q28 hp h.1; have := h.2; omega
theorem NumAt.lt (h : NumAt b p x e) (hl : ∀ z ∈ b, z < 256) : x < 18446744073709551616 := qzg hl h.1
theorem NumAt.one {x2 e2 : Nat} (h : NumAt b p x e) (h2 : NumAt b p x2 e2) : x2 = x ∧ e2 = e := by
 have h3 := h.1.symm.trans h2.1
 injection h3 with h3 h4
 injection h4 with h4
 have := h.2
 have := h2.2
 exact ⟨h3.symm, by omega⟩
theorem zm.one {xs2 : List Nat} {e2 : Nat} (h : zm b n p xs e) (h2 : zm b n p xs2 e2) : xs2 = xs ∧ e2 = e := by
 have h3 := h.1.symm.trans h2.1
 injection h3 with h3 h4
 injection h4 with h4
 have := h.2
 have := h2.2
 exact ⟨h3.symm, by omega⟩
theorem zm.nil (b : List Nat) (p : Nat) : zm b 0 p [] p := ⟨by rw [Nat.sub_self]; rfl, Nat.le_refl _⟩
theorem zm.snoc {y f : Nat} (h : zm b n p xs e) (h2 : NumAt b e y f) : zm b (n + 1) p (xs ++ [y]) f := by
 have h3 := h.2
 have h4 := h2.2
 have := qkv n _ xs (e - p) y (f - e) h.1 (by rw [List.drop_drop, h.eq]; exact h2.1)
 exact ⟨by rw [this]; congr 2; omega, by omega⟩
theorem zm.stuck {m : Nat} (h : zm b n p xs e) (hn : n < m) (h2 : (vread (b.drop e)).2.2 ≠ 0) : (readN m (b.drop p)).2.2 ≠ 0 := by
 have := qja n (m - (n + 1)) _ xs (e - p) h.1 (by rw [List.drop_drop, h.eq]; exact h2)
 rwa [show n + 1 + (m - (n + 1)) = m by omega] at this
end
theorem q_le1 {q : List Nat} {x p e : Nat} (h : q.length ≤ p) (h2 : p < e) : (q ++ [x]).length ≤ e := by rw [List.length_append]; show q.length + 1 ≤ e; omega
theorem q_leK {q xs : List Nat} {p e n : Nat} (h : q.length ≤ p) (h2 : xs.length = n) (h3 : p + n ≤ e) : (q ++ xs).length ≤ e := by rw [List.length_append]; omega
theorem qsl (b : List Nat) (p lo hi : Nat) : (vread (b.drop p)).2.2 ≠ 0 ∨ (∃ x e, NumAt b p x e ∧ (x < lo ∨ hi < x)) ∨ ∃ x e, NumAt b p x e ∧ ¬ (x < lo ∨ hi < x) := by
 rcases qky b p with h | ⟨x, e, h⟩
 ·exact .inl h
 ·by_cases h2 : x < lo ∨ hi < x
  ·exact .inr (.inl ⟨x, e, h, h2⟩)
  ·exact .inr (.inr ⟨x, e, h, h2⟩)
theorem qop {m n : Nat} (h : m * n ≤ 9223372036854775807) : Value.int .i64 (Go.IntKind.i64.wrap ((m : Int) * (n : Int))) = .int .i64 ((m * n : Nat) : Int) := by
 rw [← Int.natCast_mul]
 exact ze rfl h
def zp (l : List Sec) : Nat := (l.getD (l.length - 1) Sec.zero).to
theorem q29 {l : List Sec} (h : l.length = 0) : zp l = 0 := by rw [List.length_eq_zero_iff] at h; subst h; rfl
def prs10 (b : List Nat) (nx : Nat) (e1 : Nat) (cp : Nat) (a1 : Nat) (cr : Nat) (a2 : Nat) (gp : Nat) (e2 : Nat) (gs : List Nat) (e3 : Nat) (cl : List Nat) (e4 : Nat) (cu : List Nat) (e5 : Nat) (tk : Nat) (a3 : Nat) (ts : List Nat) (e6 : Nat) (sp : List Nat) (e7 : Nat) : Except Nat Pr := if e7 ≠ b.length then .error 346 else .ok ⟨nx, cp, cr, gp, gs, cl, cu, tk, ts, sp, e1, e2, e3, e4, e5, e6, e7⟩
def prs9 (b : List Nat) (nx : Nat) (e1 : Nat) (cp : Nat) (a1 : Nat) (cr : Nat) (a2 : Nat) (gp : Nat) (e2 : Nat) (gs : List Nat) (e3 : Nat) (cl : List Nat) (e4 : Nat) (cu : List Nat) (e5 : Nat) (tk : Nat) (a3 : Nat) (ts : List Nat) (e6 : Nat) : Except Nat Pr := numK b (cp + 3 * cp * (gp - 1)) e6 (prs10 b nx e1 cp a1 cr a2 gp e2 gs e3 cl e4 cu e5 tk a3 ts e6)
def prs8 (b : List Nat) (nx : Nat) (e1 : Nat) (cp : Nat) (a1 : Nat) (cr : Nat) (a2 : Nat) (gp : Nat) (e2 : Nat) (gs : List Nat) (e3 : Nat) (cl : List Nat) (e4 : Nat) (cu : List Nat) (e5 : Nat) (tk : Nat) (a3 : Nat) : Except Nat Pr := numK b (8 * tk) a3 (prs9 b nx e1 cp a1 cr a2 gp e2 gs e3 cl e4 cu e5 tk a3)
def prs7 (b : List Nat) (nx : Nat) (e1 : Nat) (cp : Nat) (a1 : Nat) (cr : Nat) (a2 : Nat) (gp : Nat) (e2 : Nat) (gs : List Nat) (e3 : Nat) (cl : List Nat) (e4 : Nat) (cu : List Nat) (e5 : Nat) : Except Nat Pr := cnt1 b e5 0 65535 (prs8 b nx e1 cp a1 cr a2 gp e2 gs e3 cl e4 cu e5)
def prs6 (b : List Nat) (nx : Nat) (e1 : Nat) (cp : Nat) (a1 : Nat) (cr : Nat) (a2 : Nat) (gp : Nat) (e2 : Nat) (gs : List Nat) (e3 : Nat) (cl : List Nat) (e4 : Nat) : Except Nat Pr := numK b cp e4 (prs7 b nx e1 cp a1 cr a2 gp e2 gs e3 cl e4)
def prs5 (b : List Nat) (nx : Nat) (e1 : Nat) (cp : Nat) (a1 : Nat) (cr : Nat) (a2 : Nat) (gp : Nat) (e2 : Nat) (gs : List Nat) (e3 : Nat) : Except Nat Pr := numK b cp e3 (prs6 b nx e1 cp a1 cr a2 gp e2 gs e3)
def prs4 (b : List Nat) (nx : Nat) (e1 : Nat) (cp : Nat) (a1 : Nat) (cr : Nat) (a2 : Nat) (gp : Nat) (e2 : Nat) : Except Nat Pr := numK b (2 * (gp - 1)) e2 (prs5 b nx e1 cp a1 cr a2 gp e2)
def prs3 (b : List Nat) (nx : Nat) (e1 : Nat) (cp : Nat) (a1 : Nat) (cr : Nat) (a2 : Nat) : Except Nat Pr := cnt1 b a2 1 256 (prs4 b nx e1 cp a1 cr a2)
def prs2 (b : List Nat) (nx : Nat) (e1 : Nat) (cp : Nat) (a1 : Nat) : Except Nat Pr := num1 b a1 (prs3 b nx e1 cp a1)
def prs1 (b : List Nat) (nx : Nat) (e1 : Nat) : Except Nat Pr := cnt1 b e1 1 64 (prs2 b nx e1)
def prs (b : List Nat) : Except Nat Pr := num1 b 3 (prs1 b)
def Pr.nums (p : Pr) : List Nat := [p.nx, p.cp, p.cr, p.gp] ++ p.gs ++ p.cl ++ p.cu ++ [p.tk] ++ p.ts ++ p.sp
def Pr.secs (p : Pr) : List Sec := [qd, ⟨qa 0, 3, p.e1⟩, ⟨qa 1, p.e1, p.e2⟩, ⟨qa 2, p.e2, p.e3⟩, ⟨qa 3, p.e3, p.e4⟩, ⟨qa 4, p.e4, p.e5⟩, ⟨qa 5, p.e5, p.e6⟩, ⟨qa 6, p.e6, p.e7⟩, ⟨⟨#[115, 117, 109]⟩, p.e7, p.e7 + 4⟩]
section
variable {α : Type} {b : List Nat} {a n : Nat} {er : Nat}
theorem qmh {k : Nat → Nat → Except Nat α} (h : num1 b a k = .error er) : er = 344 ∨ ∃ x e, k x e = .error er := by
 unfold num1 at h
 split at h
 ·injection h with h; exact .inl h.symm
 ·exact .inr ⟨_, _, h⟩
theorem qfz {k : List Nat → Nat → Except Nat α} (h : numK b n a k = .error er) : er = 344 ∨ ∃ x e, k x e = .error er := by
 unfold numK at h
 split at h
 ·injection h with h; exact .inl h.symm
 ·exact .inr ⟨_, _, h⟩
theorem qmi {lo hi : Nat} {k : Nat → Nat → Except Nat α} (h : cnt1 b a lo hi k = .error er) : (er = 344 ∨ er = 345) ∨ ∃ x e, k x e = .error er := by
 unfold cnt1 at h
 rcases qmh h with h | ⟨x, e, h⟩
 ·exact .inl (.inl h)
 ·split at h
  ·injection h with h; exact .inl (.inr h.symm)
  ·exact .inr ⟨_, _, h⟩
end
theorem qzh {b : List Nat} {er : Nat} (h : prs b = .error er) : 344 ≤ er ∧ er ≤ 346 := by
 rcases qmh h with h | ⟨_, _, h⟩; · omega
 rcases qmi h with h | ⟨_, _, h⟩; · omega
 rcases qmh h with h | ⟨_, _, h⟩; · omega
 rcases qmi h with h | ⟨_, _, h⟩; · omega
 rcases qfz h with h | ⟨_, _, h⟩; · omega
 rcases qfz h with h | ⟨_, _, h⟩; · omega
 rcases qfz h with h | ⟨_, _, h⟩; · omega
 rcases qmi h with h | ⟨_, _, h⟩; · omega
 rcases qfz h with h | ⟨_, _, h⟩; · omega
 rcases qfz h with h | ⟨_, _, h⟩; · omega
 unfold prs10 at h
 split at h
 ·injection h with h; omega
 ·cases h
def opnR (l : List Nat) : Except Nat Pr :=
 if l.length < 15 then .error 340 else if 16777216 < l.length then .error 3 else if q7 l = false then .error 341 else
 if ¬ (l.getD 0 0 = 113 ∧ l.getD 1 0 = 115) then .error 342 else if l.getD 2 0 ≠ 1 then .error 343 else prs (l.take (l.length - 4))
section
variable {l : List Nat}
theorem qzi (h : l.length < 15) : opnR l = .error 340 := if_pos h
theorem q3a (h : ¬ l.length < 15) (h2 : 16777216 < l.length) : opnR l = .error 3 := by unfold opnR; rw [if_neg h, if_pos h2]
theorem qzj (h : ¬ l.length < 15) (h2 : ¬ 16777216 < l.length) (h3 : q7 l = false) : opnR l = .error 341 := by unfold opnR; rw [if_neg h, if_neg h2, if_pos h3]
theorem qoq (h : ¬ l.length < 15) (h2 : ¬ 16777216 < l.length) (h3 : q7 l = true) (h4 : ¬ (l.getD 0 0 = 113 ∧ l.getD 1 0 = 115)) : opnR l = .error 342 := by unfold opnR; rw [if_neg h, if_neg h2, h3, if_neg de, if_pos h4]
theorem qql (h : ¬ l.length < 15) (h2 : ¬ 16777216 < l.length) (h3 : q7 l = true) (h4 : l.getD 0 0 = 113 ∧ l.getD 1 0 = 115) (h5 : l.getD 2 0 ≠ 1) : opnR l = .error 343 := by unfold opnR; rw [if_neg h, if_neg h2, h3, if_neg de, if_neg (fun x => x h4), if_pos h5]
theorem q64 (h : ¬ l.length < 15) (h2 : ¬ 16777216 < l.length) (h3 : q7 l = true) (h4 : l.getD 0 0 = 113 ∧ l.getD 1 0 = 115) (h5 : l.getD 2 0 = 1) : opnR l = prs (l.take (l.length - 4)) := by unfold opnR; rw [if_neg h, if_neg h2, h3, if_neg de, if_neg (fun x => x h4), if_neg (fun x => x h5)]
theorem qgz {er : Nat} (h : opnR l = .error er) : 1 ≤ er ∧ er ≤ 346 := by
 unfold opnR at h
 split at h
 ·injection h with h; omega
 ·split at h
  ·injection h with h; omega
  ·split at h
   ·injection h with h; omega
   ·split at h
    ·injection h with h; omega
    ·split at h
     ·injection h with h; omega
     ·have := qzh h; omega
end
def errR (l : List Nat) : Nat := match opnR l with
 | .ok _ => 0
 | .error k => k
def pnums (l : List Nat) : List Nat := match opnR l with
 | .ok p => p.nums
 | .error _ => []
def psecs (l : List Nat) : List Sec := match opnR l with
 | .ok p => p.secs
 | .error _ => []
section
variable {l : List Nat} {p : Pr} {k : Nat}
theorem qg0 (h : opnR l = .ok p) : errR l = 0 := by unfold errR; rw [h]
theorem qe2 (h : opnR l = .error k) : errR l = k := by unfold errR; rw [h]
theorem q3b (h : opnR l = .ok p) : pnums l = p.nums := by unfold pnums; rw [h]
theorem qsm (h : opnR l = .error k) : pnums l = [] := by unfold pnums; rw [h]
theorem qsn (h : opnR l = .ok p) : psecs l = p.secs := by unfold psecs; rw [h]
theorem qso (h : opnR l = .error k) : psecs l = [] := by unfold psecs; rw [h]
end
theorem Mem.reBlk {W w : World} {fs : List Fact} (h : Mem W w fs) {i g : Nat} {cs ds : Array Value} {t : TypeId} (hi : fs[i]? = some (.blk g cs t)) (he : cs = ds) : Mem W w (fs.set i (.blk g ds t)) := by
 subst he
 obtain ⟨hl, h2⟩ := List.getElem?_eq_some_iff.1 hi
 rw [← h2, List.set_getElem_self]
 exact h
theorem rd_at {w : World} {B a c : Nat} {A : Option Addr} {b : List Nat} (h : Rd w B 1 A b.length (b.map B8)) (ha : a ≤ b.length) (hc : b.length ≤ c) : Rd w B 1 (if c = a then A else A.map (·.add (a * 1))) (b.drop a).length ((b.drop a).map B8) := by
 have h1 := h.q99 (i := a) (j := b.length) ha (Nat.le_refl _) hc
 rw [List.take_length] at h1
 rw [List.length_drop]
 exact h1
theorem q3c {A : Option Addr} {c : Nat} {l : List Nat} {w : World} {x n er : Nat} (h : vread l = (x, n, er)) (hr : Rd w w.heap.size 1 A l.length (l.map B8)) (hl : ∀ b ∈ l, b < 256) (hn : l.length ≤ 200000000000000) :
  Calls Tryz.prog 53 #[.slice A l.length c] w (Is w (.tuple #[.int .u64 (x : Int), .int .i64 (n : Int), .int .i64 (er : Int)])) := by
 have := q22 A l.length c l w hr hl hn
 rw [h] at this
 exact this
def errT : TypeId := 44
theorem qhr {W : World} {fs : List Fact} (k : Int) (w : World) (HW : Mem W w fs) : Calls Tryz.prog 138 #[.int .i64 k] w (Dies W fs (pan errT k)) := by
 refine zi (vs := [.int .i64 k]) Tryz.func138 rfl rfl kr (σ0 := [(0, .int .i64 k)]) rfl ?_
 intro a Z
 refine zd ?_
 refine fp Z 1 0 [(2, .int .i64 k)] fun a Z => fy Z HW 1 rfl rfl rfl (Yl.makeInterface rfl rfl) fun a Z => ?_
 refine fo Z 2 rfl rfl ?_
 refine q6z Z rfl rfl ?_
 exact qc8 Z ⟨rfl, HW⟩
theorem qzk {W : World} {fs gs : List Fact} {i g : Nat} (k x : Int) (w : World) (I : Mem W w fs) (hi : fs[i]? = some (.blk g #[.int .i64 x] errT)) (hg : fs.set i (.blk g #[.int .i64 k] errT) = gs) : CallsD Tryz.prog 133 [Value.pointer (some ⟨g, 0, none⟩)].toArray (.panicking (pan errT k)) w (Caught W gs) := by
 subst hg
 refine qhe Tryz.func133 rfl rfl kr (σ0 := [(0, .pointer (some ⟨g, 0, none⟩))]) rfl fun c₀ cs a hu Z => ?_
 refine wpS_seq (wpS_region ?_)
 refine qhd (i := 0) (v := .iface errT (.int .i64 k)) (cs' := { c₀ with mode := .panicking [{ v := .iface errT (.int .i64 k), recovered := true }] } :: cs) Z rfl rfl rfl rfl de (.inl (by unfold pan at hu; simp [recoverD, hu])) fun a Z => ?_
 refine qon (i := 1) Z rfl rfl rfl rfl de fun a Z => ?_
 refine wpS_of_wp (wp_seq ?_)
 refine zd ?_
 refine fp Z 1 0 [(6, .iface errT (.int .i64 k))] fun a Z => fy Z I 1 rfl rfl rfl (Yl.q36 rfl rfl) fun a Z => ?_
 refine fp Z 5 2 [(2, .int .i64 k), (3, .bool true)] fun a Z => qa0 rfl ?_
 refine wp_seq (wp_seq ?_)
 refine zd ?_
 refine fp Z 1 0 [(10, .iface errT (.int .i64 k))] fun a Z => fy Z I 1 rfl rfl rfl (Yl.q77 rfl rfl rfl) fun a Z => ?_
 refine fp Z 4 2 [(15, .bool false)] fun a Z => qa0 rfl ?_
 refine qgj Z rfl (wp_skip ?_)
 refine zd ?_
 refine fp Z 1 0 [(17, .int .i64 k)] fun a Z => fo Z 1 rfl rfl ?_
 refine qcn Z I (i := i) rfl rfl rfl rfl kr rfl hi (by simp) ?_
 clear I; intro w2 I
 refine qa0 rfl ?_
 exact qoo rfl Z ⟨rfl, rfl, I⟩
theorem qvd {W : World} {fs gs : List Fact} {i g : Nat} (x : Int) (w : World) (I : Mem W w fs) (hi : fs[i]? = some (.blk g #[.int .i64 x] errT)) (hg : fs.set i (.blk g #[.int .i64 0] errT) = gs) : CallsD Tryz.prog 133 [Value.pointer (some ⟨g, 0, none⟩)].toArray .returning w (Caught W gs) := by
 subst hg
 refine qhe Tryz.func133 rfl rfl kr (σ0 := [(0, .pointer (some ⟨g, 0, none⟩))]) rfl fun c₀ cs a hu Z => ?_
 refine wpS_seq (wpS_region ?_)
 refine qhd (i := 0) (v := .nilIface) (cs' := c₀ :: cs) Z rfl rfl rfl rfl de (.inr ⟨by simp [recoverD, hu], rfl, rfl⟩) fun a Z => ?_
 refine qon (i := 1) Z rfl rfl rfl rfl de fun a Z => ?_
 refine wpS_of_wp (wp_seq ?_)
 refine zd ?_
 refine fp Z 1 0 [(6, .nilIface)] fun a Z => fy Z I 1 rfl rfl rfl (Yl.q0r (z := .int .i64 0) rfl rfl kr) fun a Z => ?_
 refine fp Z 5 2 [(2, .int .i64 0), (3, .bool false)] fun a Z => qa0 rfl ?_
 refine wp_seq (wp_seq ?_)
 refine zd ?_
 refine fp Z 1 0 [(10, .nilIface)] fun a Z => fy Z I 1 rfl rfl rfl (Yl.zag rfl rfl) fun a Z => ?_
 refine fp Z 4 2 [(15, .bool false)] fun a Z => qa0 rfl ?_
 refine qgj Z rfl (wp_skip ?_)
 refine zd ?_
 refine fp Z 1 0 [(17, .int .i64 0)] fun a Z => fo Z 1 rfl rfl ?_
 refine qcn Z I (i := i) rfl rfl rfl rfl kr rfl hi (by simp) ?_
 clear I; intro w2 I
 refine qa0 rfl ?_
 have hc : c₀ = { c₀ with mode := FrameMode.returning } := by cases c₀; simp at hu; rw [hu]
 rw [hc]
 exact qoo rfl Z ⟨rfl, rfl, I⟩
section
variable {b rest : List Nat} {p x : Nat} {xs : List Nat}
end
section
variable {s : Snm} {tail : List Nat}
end
section
variable {α : Type} {b : List Nat} {a n : Nat} {p : α}
theorem qhs {k : Nat → Nat → Except Nat α} (h : num1 b a k = .ok p) : ∃ x e, NumAt b a x e ∧ k x e = .ok p := by
 rcases qky b a with h2 | ⟨x, e, h2⟩
 ·rw [qmf h2] at h; cases h
 ·rw [h2.go1] at h; exact ⟨x, e, h2, h⟩
theorem qbl {k : List Nat → Nat → Except Nat α} (h : numK b n a k = .ok p) : ∃ xs e, zm b n a xs e ∧ k xs e = .ok p := by
 rcases qgy b n a with h2 | ⟨x, e, h2⟩
 ·rw [qgx h2] at h; cases h
 ·rw [h2.goK] at h; exact ⟨x, e, h2, h⟩
theorem qej {lo hi : Nat} {k : Nat → Nat → Except Nat α} (h : cnt1 b a lo hi k = .ok p) : ∃ x e, NumAt b a x e ∧ (lo ≤ x ∧ x ≤ hi) ∧ k x e = .ok p := by
 rcases qsl b a lo hi with h2 | ⟨x, e, h2, h3⟩ | ⟨x, e, h2, h3⟩
 ·rw [qmg h2] at h; cases h
 ·rw [h2.bad h3] at h; cases h
 ·rw [h2.goC h3] at h; exact ⟨x, e, h2, by omega, h⟩
end
section
variable {b : List Nat} {p x e n : Nat} {xs : List Nat}
theorem NumAt.bytes (h : NumAt b p x e) (hl : ∀ z ∈ b, z < 256) : b.drop p = vbytes x ++ b.drop e := by
 rw [qkt (fun z hz => hl z (List.mem_of_mem_drop hz)) h.1]
 have := List.take_append_drop (e - p) (b.drop p)
 rw [List.drop_drop, h.eq] at this
 exact this.symm
theorem zm.bytes (h : zm b n p xs e) (hl : ∀ z ∈ b, z < 256) : b.drop p = xs.flatMap vbytes ++ b.drop e ∧ ∀ x ∈ xs, x < 18446744073709551616 := by
 obtain ⟨h1, _, h3, _⟩ := qku n _ xs _ (fun z hz => hl z (List.mem_of_mem_drop hz)) h.1
 refine ⟨?_, h3⟩
 rw [h1]
 have := List.take_append_drop (e - p) (b.drop p)
 rw [List.drop_drop, h.eq] at this
 exact this.symm
end
structure Pr.Fit (p : Pr) : Prop where
 cp1 : 1 ≤ p.cp
 cp2 : p.cp ≤ 64
 gp1 : 1 ≤ p.gp
 gp2 : p.gp ≤ 256
 tk : p.tk ≤ 65535
 gs : p.gs.length = 2 * (p.gp - 1)
 cl : p.cl.length = p.cp
 cu : p.cu.length = p.cp
 ts : p.ts.length = 8 * p.tk
 sp : p.sp.length = p.cp + 3 * p.cp * (p.gp - 1)
 lt : ∀ x ∈ p.nums, x < 18446744073709551616
theorem q68 {b : List Nat} {p : Pr} (hb : 3 ≤ b.length) (hl : ∀ z ∈ b, z < 256) (h : prs b = .ok p) : p.Fit ∧ b.drop 3 = p.nums.flatMap vbytes := by
 obtain ⟨nx, e1, h1, h⟩ := qhs h
 obtain ⟨cp, a1, h2, c2, h⟩ := qej h
 obtain ⟨cr, a2, h3, h⟩ := qhs h
 obtain ⟨gp, e2, h4, c4, h⟩ := qej h
 obtain ⟨gs, e3, h5, h⟩ := qbl h
 obtain ⟨cl, e4, h6, h⟩ := qbl h
 obtain ⟨cu, e5, h7, h⟩ := qbl h
 obtain ⟨tk, a3, h8, c8, h⟩ := qej h
 obtain ⟨ts, e6, h9, h⟩ := qbl h
 obtain ⟨sp, e7, h10, h⟩ := qbl h
 unfold prs10 at h
 split at h
 ·cases h
 rename_i he
 injection h with h
 subst h
 have i1 := h1.in hb
 have i2 := h2.in i1.2
 have i3 := h3.in i2.2
 have i4 := h4.in i3.2
 have i5 := h5.in i4.2
 have i6 := h6.in i5.2.2
 have i7 := h7.in i6.2.2
 have i8 := h8.in i7.2.2
 have i9 := h9.in i8.2
 have i10 := h10.in i9.2.2
 have b5 := h5.bytes hl
 have b6 := h6.bytes hl
 have b7 := h7.bytes hl
 have b9 := h9.bytes hl
 have b10 := h10.bytes hl
 have hend : b.drop e7 = [] := List.drop_eq_nil_of_le om
 refine ⟨⟨c2.1, c2.2, c4.1, c4.2, c8.2, i5.1, i6.1, i7.1, i9.1, i10.1, fun x hx => ?_⟩, ?_⟩
 ·simp only [Pr.nums, List.mem_append, List.mem_cons, List.not_mem_nil, or_false] at hx
  rcases hx with (((((((rfl | rfl | rfl | rfl) | hx) | hx) | hx) | rfl) | hx) | hx)
  ·exact h1.lt hl
  ·exact h2.lt hl
  ·exact h3.lt hl
  ·exact h4.lt hl
  ·exact b5.2 x hx
  ·exact b6.2 x hx
  ·exact b7.2 x hx
  ·exact h8.lt hl
  ·exact b9.2 x hx
  ·exact b10.2 x hx
 ·rw [h1.bytes hl, h2.bytes hl, h3.bytes hl, h4.bytes hl, b5.1, b6.1, b7.1, h8.bytes hl, b9.1, b10.1, hend]
  simp [Pr.nums]
def toI (x : Nat) : Int := Go.IntKind.i64.wrap (x : Int)
def mostI : Nat := 4611686018427387904
def mapR {α : Type} (n : Nat) (f : Nat → α) : List α := (List.range n).map f
theorem qdo {α : Type} (n : Nat) (f : Nat → α) : (mapR n f).length = n := by simp [mapR]
theorem qbb {α : Type} (n : Nat) (f : Nat → α) : mapR (n + 1) f = mapR n f ++ [f n] := by unfold mapR; rw [List.range_succ, List.map_append]; rfl
theorem q3h {α β : Type} (n : Nat) (f : Nat → α) (g : α → β) : (mapR n f).map g = mapR n fun i => g (f i) := by unfold mapR; rw [List.map_map]; rfl
theorem qoy {l : List Nat} {n : Nat} (h : l.length = n) (f : Nat → Int) : (mapR n fun i => f (l.getD i 0)) = l.map f := by
 subst h
 refine List.ext_getElem (by simp [mapR]) fun i h1 h2 => ?_
 have h3 : i < l.length := by simpa using h2
 simp [mapR, List.getElem?_eq_getElem h3]
def Pr.grp (p : Pr) (g : Nat) : Gr := if g = 0 then ⟨0, 1⟩ else ⟨toI (p.gs.getD (2 * (g - 1)) 0), toI (p.gs.getD (2 * (g - 1) + 1) 0)⟩
def Pr.tn (p : Pr) (i j : Nat) : Nat := p.ts.getD (8 * i + j) 0
def Pr.idB (p : Pr) : Nat → Int
 | 0 => 0
 | i + 1 => if 65535 < Go.IntKind.i64.wrap (p.idB i + toI (p.tn i 0)) then 65535 else Go.IntKind.i64.wrap (p.idB i + toI (p.tn i 0))
def Pr.idA (p : Pr) (i : Nat) : Int := Go.IntKind.i64.wrap (p.idB i + toI (p.tn i 0))
def Pr.tsk (p : Pr) (i : Nat) : Tk := ⟨p.idA i, toI (p.tn i 1), toI (p.tn i 2), toI (p.tn i 3), p.tn i 4, decide (p.tn i 5 = 1), p.tn i 6, p.tn i 7 % 4294967296⟩
def Pr.so (p : Pr) (g c : Nat) : Nat := if g = 0 then c else p.cp + 3 * p.cp * (g - 1) + 3 * c
def Pr.sn (p : Pr) (g c j : Nat) : Nat := p.sp.getD (p.so g c + j) 0
def Pr.spt (p : Pr) (g c : Nat) : Sp := if g = 0 then ⟨0, 0, p.sn g c 0⟩ else ⟨p.sn g c 0, p.sn g c 1 % 4294967296, p.sn g c 2⟩
def Pr.row (p : Pr) (g : Nat) : List Sp := mapR p.cp (p.spt g)
def Pr.snA (p : Pr) : Snm := ⟨toI p.nx, ⟨(p.cp : Int), p.cr, none, 0, mapR p.gp p.grp, none, 0, p.cl.map toI, none, 0, p.cu.map toI, none, 0, mapR p.tk p.tsk, none, 0, mapR p.gp fun g => ⟨none, 0, p.row g⟩⟩⟩
def dle (x m : Nat) : Bool := decide (x ≤ m)
def Pr.ok0 (p : Pr) : Bool := (((true && dle p.nx mostI) && dle p.cp mostI) && dle p.cr 18446744073709551615) && dle p.gp mostI
def Pr.okG (p : Pr) : Nat → Bool
 | 0 => p.ok0
 | g + 1 => if g = 0 then p.ok0 else (p.okG g && dle (p.gs.getD (2 * (g - 1)) 0) mostI) && dle (p.gs.getD (2 * (g - 1) + 1) 0) mostI
def Pr.okC (p : Pr) : Nat → Bool
 | 0 => p.okG p.gp
 | k + 1 => p.okC k && dle (p.cl.getD k 0) mostI
def Pr.okU (p : Pr) : Nat → Bool
 | 0 => p.okC p.cp
 | k + 1 => p.okU k && dle (p.cu.getD k 0) mostI
def Pr.okT (p : Pr) : Nat → Bool
 | 0 => p.okU p.cp && dle p.tk mostI
 | i + 1 => ((((((((p.okT i && dle (p.tn i 0) mostI) && dle (p.tn i 1) mostI) && dle (p.tn i 2) mostI) && dle (p.tn i 3) mostI) && dle (p.tn i 4) 18446744073709551615) && dle (p.tn i 5) 1) && dle (p.tn i 6) 18446744073709551615) && dle (p.tn i 7) 4294967295) && decide (p.idA i ≤ 65535)
def Pr.okR (p : Pr) (base : Bool) (g : Nat) : Nat → Bool
 | 0 => base
 | c + 1 => if g = 0 then p.okR base g c && dle (p.sn g c 0) 18446744073709551615 else ((p.okR base g c && dle (p.sn g c 0) 18446744073709551615) && dle (p.sn g c 1) 4294967295) && dle (p.sn g c 2) 18446744073709551615
def Pr.okS (p : Pr) : Nat → Bool
 | 0 => p.okT p.tk
 | g + 1 => p.okR (p.okS g) g p.cp
def Pr.okB (p : Pr) : Bool := p.okS p.gp
section
variable {p : Pr} (h : p.Fit)
def Pr.oC (p : Pr) : Nat := 4 + 2 * (p.gp - 1)
def Pr.oT (p : Pr) : Nat := p.oC + 2 * p.cp
def Pr.oS (p : Pr) : Nat := p.oT + 1 + 8 * p.tk
theorem qf2 {l m : List Nat} {k : Nat} (hk : k < l.length) : (l ++ m).getD k 0 = l.getD k 0 := by
 rw [List.getD_eq_getElem?_getD, List.getElem?_append_left hk, ← List.getD_eq_getElem?_getD]
theorem qda {l m : List Nat} {k j : Nat} (hk : k = l.length + j) : (l ++ m).getD k 0 = m.getD j 0 := by
 rw [List.getD_eq_getElem?_getD, List.getElem?_append_right om, ← List.getD_eq_getElem?_getD, hk, Nat.add_sub_cancel_left]
theorem q3i (p : Pr) : p.nums.getD 0 0 = p.nx ∧ p.nums.getD 1 0 = p.cp ∧ p.nums.getD 2 0 = p.cr ∧ p.nums.getD 3 0 = p.gp := by
 unfold Pr.nums
 simp [List.append_assoc]
include h in
theorem q3j : p.nums.length = p.oS + p.sp.length ∧ p.sp.length = p.cp + 3 * p.cp * (p.gp - 1) := by
 unfold Pr.nums Pr.oS Pr.oT Pr.oC
 simp only [List.length_append, List.length_cons, List.length_nil, h.gs, h.cl, h.cu, h.ts]
 exact ⟨by omega, h.sp⟩
include h in
theorem qzr {j : Nat} (hj : j < 2 * (p.gp - 1)) : p.nums.getD (4 + j) 0 = p.gs.getD j 0 := by
 have := h.gs
 unfold Pr.nums
 rw [List.append_assoc, List.append_assoc, List.append_assoc, List.append_assoc, List.append_assoc, qda (l := [p.nx, p.cp, p.cr, p.gp]) (k := 4 + j) (j := j) rfl, qf2 om]
include h in
theorem q69 {j : Nat} (hj : j < p.cp) : p.nums.getD (p.oC + j) 0 = p.cl.getD j 0 := by
 have := h.gs
 have := h.cl
 unfold Pr.nums Pr.oC
 rw [List.append_assoc, List.append_assoc, List.append_assoc, List.append_assoc, qda (j := j) (by simp only [List.length_append, List.length_cons, List.length_nil]; omega), qf2 om]
include h in
theorem q7a {j : Nat} (hj : j < p.cp) : p.nums.getD (p.oC + p.cp + j) 0 = p.cu.getD j 0 := by
 have := h.gs
 have := h.cl
 have := h.cu
 unfold Pr.nums Pr.oC
 rw [List.append_assoc, List.append_assoc, List.append_assoc, qda (j := j) (by simp only [List.length_append, List.length_cons, List.length_nil]; omega), qf2 om]
include h in
theorem q7b : p.nums.getD p.oT 0 = p.tk := by
 have := h.gs
 have := h.cl
 have := h.cu
 unfold Pr.nums Pr.oT Pr.oC
 rw [List.append_assoc, List.append_assoc, qda (j := 0) (by simp only [List.length_append, List.length_cons, List.length_nil]; omega)]
 rfl
include h in
theorem qd5 {j : Nat} (hj : j < 8 * p.tk) : p.nums.getD (p.oT + 1 + j) 0 = p.ts.getD j 0 := by
 have := h.gs
 have := h.cl
 have := h.cu
 have := h.ts
 unfold Pr.nums Pr.oT Pr.oC
 rw [List.append_assoc, qda (j := j) (by simp only [List.length_append, List.length_cons, List.length_nil]; omega), qf2 om]
include h in
theorem qmk (j : Nat) : p.nums.getD (p.oS + j) 0 = p.sp.getD j 0 := by
 have := h.gs
 have := h.cl
 have := h.cu
 have := h.ts
 unfold Pr.nums Pr.oS Pr.oT Pr.oC
 rw [qda (j := j) (by simp only [List.length_append, List.length_cons, List.length_nil]; omega)]
theorem qml (p : Pr) (c : Nat) : p.so 0 c = c := if_pos rfl
theorem qoz {g : Nat} (hg : 0 < g) (c : Nat) : p.so g c = p.cp + 3 * p.cp * (g - 1) + 3 * c := if_neg om
theorem q7c {g : Nat} : p.so (g + 1) 0 = p.so g p.cp := by
 rw [qoz om]
 rcases Nat.eq_zero_or_pos g with h0 | h0
 ·subst h0; rw [qml]; omega
 ·rw [qoz h0, show g + 1 - 1 = (g - 1) + 1 by omega, Nat.mul_succ]; omega
include h in
theorem so_in {g c : Nat} (hg : g < p.gp) (hc : c < p.cp) : p.so g c + (if g = 0 then 1 else 3) ≤ p.sp.length := by
 rw [h.sp]
 rcases Nat.eq_zero_or_pos g with h0 | h0
 ·subst h0; rw [qml, if_pos rfl]; omega
 ·rw [qoz h0, if_neg om]
  have : 3 * p.cp * (g - 1) + 3 * p.cp ≤ 3 * p.cp * (p.gp - 1) := by
   rw [← Nat.mul_succ]
   exact Nat.mul_le_mul_left _ om
  omega
end
def srcA (A : Option Addr) (c : Nat) : Nat → Option Addr
 | 0 => A
 | k + 1 => if c - k = 1 then srcA A c k else (srcA A c k).map (·.add (1 * 1))
theorem qzs {w : World} {B c : Nat} {A : Option Addr} {q : List Nat} (h : Rd w B 1 A q.length (q.map U64)) (hc : q.length ≤ c) : ∀ k, k ≤ q.length → Rd w B 1 (srcA A c k) (q.length - k) ((q.drop k).map U64)
 | 0, _ => h
 | k + 1, hk => by
  have h1 := qzs h hc k om
  have h2 := h1.mid (i := 1) (j := q.length - k) (c := c - k) om (Nat.le_refl _) om
  simp only [Nat.mul_one] at h2
  rw [← List.map_take, ← List.map_drop, List.take_of_length_le (by rw [List.length_drop]; omega), List.drop_drop] at h2
  rw [show q.length - (k + 1) = q.length - k - 1 by omega]
  exact h2
theorem q9j {w : World} {B c k gS oS : Nat} {A : Option Addr} {q : List Nat} (h : Rd w B 1 A q.length (q.map U64)) (hc : q.length ≤ c) (hk : k < q.length) (hA : srcA A c k = some ⟨gS, oS, none⟩) : w.cell? ⟨gS, oS, none⟩ = some (.int .u64 (q.getD k 0 : Int)) := by
 have h1 := qzs h hc k om
 rw [hA] at h1
 have h2 := h1.q0n (k := 0) (qm7 (F := U64) (x := q.getD k 0) (by rw [List.getElem?_drop, List.getD_eq_getElem?_getD, Nat.add_zero, List.getElem?_eq_getElem hk]; rfl))
 rwa [Nat.zero_mul, Nat.add_zero] at h2
theorem q7d (x : Nat) : toI x = ((x : Int) + 9223372036854775808) % 18446744073709551616 - 9223372036854775808 := by unfold toI; rw [Go.IntKind.wrap_i64]
theorem qqr {x : Nat} (h : x ≤ 4611686018427387904) : toI x = x := by rw [q7d]; omega
def Pr.idC (p : Pr) : Nat → Int
 | 0 => 0
 | i + 1 => Go.IntKind.i64.wrap (p.idC i + toI (p.tn i 0))
def Pr.tskB (p : Pr) (i : Nat) : Tk := ⟨p.idC (i + 1), toI (p.tn i 1), toI (p.tn i 2), toI (p.tn i 3), p.tn i 4, decide (0 < p.tn i 5), p.tn i 6, p.tn i 7 % 4294967296⟩
def Pr.snB (p : Pr) : Snm := ⟨toI p.nx, ⟨(p.cp : Int), p.cr, none, 0, mapR p.gp p.grp, none, 0, p.cl.map toI, none, 0, p.cu.map toI, none, 0, mapR p.tk p.tskB, none, 0, mapR p.gp fun g => ⟨none, 0, p.row g⟩⟩⟩
structure Pr.Low (p : Pr) : Prop where
 t5 : ∀ i, i < p.tk → p.tn i 5 ≤ 1
 t7 : ∀ i, i < p.tk → p.tn i 7 ≤ 4294967295
 s1 : ∀ g, g < p.gp → 0 < g → ∀ c, c < p.cp → p.sn g c 1 ≤ 4294967295
section
variable {p : Pr}
theorem q9k (x : Nat) (h : x ∈ p.ts) : x ∈ p.nums := by simp [Pr.nums, h]
theorem q9l (x : Nat) (h : x ∈ p.sp) : x ∈ p.nums := by simp [Pr.nums, h]
theorem qsu {l : List Nat} {n : Nat} (h : ∀ x ∈ l, x < n) (hn : 0 < n) (k : Nat) : l.getD k 0 < n := by
 rw [List.getD_eq_getElem?_getD]
 rcases Nat.lt_or_ge k l.length with h1 | h1
 ·rw [List.getElem?_eq_getElem h1]; exact h _ (List.getElem_mem h1)
 ·rw [List.getElem?_eq_none h1]; exact hn
variable (h : p.Fit)
include h
theorem tn_lt (i j : Nat) : p.tn i j < 18446744073709551616 := qsu (fun x hx => h.lt x (q9k x hx)) de _
theorem sn_lt (g c j : Nat) : p.sn g c j < 18446744073709551616 := qsu (fun x hx => h.lt x (q9l x hx)) de _
theorem cr_lt : p.cr < 18446744073709551616 := h.lt _ (by simp [Pr.nums])
end
section
variable {p : Pr}
end
section
variable {p : Pr} (h : p.Fit)
include h
end
section
variable {p : Pr}
end
theorem qzt (x : Int) : I64 (Go.IntKind.i64.wrap x) := by rw [Go.IntKind.wrap_i64]; unfold I64; omega
theorem qk0 (x : Nat) : I64 (toI x) := qzt _
theorem qht {α : Type} {n : Nat} {f : Nat → α} {q : α → Prop} (h : ∀ i, i < n → q (f i)) : ∀ x ∈ mapR n f, q x := by
 intro x hx
 obtain ⟨i, hi, rfl⟩ := List.mem_map.1 hx
 exact h i (List.mem_range.1 hi)
section
variable {p : Pr} (h : p.Fit)
include h
theorem q9m (g : Nat) : (p.grp g).Ok := by
 unfold Pr.grp
 split
 ·exact ⟨by unfold I64; decide, by unfold I64; decide⟩
 ·exact ⟨qk0 _, qk0 _⟩
theorem q9n (g c : Nat) : (p.spt g c).Ok := by
 have t0 := sn_lt h g c 0
 have t2 := sn_lt h g c 2
 unfold Pr.spt
 split
 ·exact ⟨show 0 < 18446744073709551616 by decide, show 0 < 4294967296 by decide, t0⟩
 ·exact ⟨t0, Nat.mod_lt _ de, t2⟩
theorem cp_in : I64 (p.cp : Int) := by have := h.cp2; unfold I64; omega
theorem qzu (l : List Nat) : ∀ x ∈ l.map toI, I64 x := by
 intro x hx
 obtain ⟨y, _, rfl⟩ := List.mem_map.1 hx
 exact qk0 y
theorem rows_ok : ∀ l ∈ (mapR p.gp fun g => (⟨none, 0, p.row g⟩ : Rw)).map Rw.l, ∀ x ∈ l, Sp.Ok x := by
 intro l hl
 obtain ⟨y, hy, rfl⟩ := List.mem_map.1 hl
 obtain ⟨g, _, rfl⟩ := List.mem_map.1 hy
 exact qht fun c _ => q9n h g c
theorem q7e (i : Nat) : (p.tsk i).Ok := ⟨qzt _, qk0 _, qk0 _, qk0 _, tn_lt h i 4, tn_lt h i 6, Nat.mod_lt _ de⟩
theorem q9o : p.snA.st.sta.Ok := ⟨cp_in h, cr_lt h, qht fun g _ => q9m h g, qzu h _, qzu h _, qht fun i _ => q7e h i, rows_ok h⟩
theorem qmm {l : List Nat} {n : Nat} (hl : l.length = n) (hn : n ≤ 1000000) : (l.map toI).length ≤ 1000000 := by rw [List.length_map]; omega
theorem qsv : ∀ y ∈ mapR p.gp fun g => (⟨none, 0, p.row g⟩ : Rw), y.l.length ≤ 1000000 := qht fun g _ => by
 have := h.cp2
 show (p.row g).length ≤ 1000000
 unfold Pr.row
 rw [qdo]
 omega
theorem q9p (s : Snm) (hs : s = p.snA ∨ s = p.snB) : StFew s.st := by
 have h1 := h.cp2
 have h2 := h.gp2
 have h3 := h.tk
 rcases hs with rfl | rfl
 ·exact ⟨by show (mapR _ _).length ≤ _; rw [qdo]; omega, qmm h h.cl om, qmm h h.cu om, by show (mapR _ _).length ≤ _; rw [qdo]; omega, by show (mapR _ _).length ≤ _; rw [qdo]; omega, qsv h⟩
 ·exact ⟨by show (mapR _ _).length ≤ _; rw [qdo]; omega, qmm h h.cl om, qmm h h.cu om, by show (mapR _ _).length ≤ _; rw [qdo]; omega, by show (mapR _ _).length ≤ _; rw [qdo]; omega, qsv h⟩
end
theorem qzv {l : List Nat} {p : Pr} (hl : ∀ z ∈ l, z < 256) (h : opnR l = .ok p) : 15 ≤ l.length ∧ l.length ≤ 16777216 ∧ p.Fit ∧ l = sealL ([113, 115, 1] ++ p.nums.flatMap vbytes) := by
 unfold opnR at h
 split at h
 ·cases h
 rename_i h1
 split at h
 ·cases h
 rename_i h2
 split at h
 ·cases h
 rename_i h3
 split at h
 ·cases h
 rename_i h4
 split at h
 ·cases h
 rename_i h5
 have h4 : l.getD 0 0 = 113 ∧ l.getD 1 0 = 115 := Decidable.of_not_not h4
 have h5 : l.getD 2 0 = 1 := Decidable.of_not_not h5
 have hs : q7 l = true := by cases hq : q7 l with | true => rfl | false => exact absurd hq h3
 have hlen : (l.take (l.length - 4)).length = l.length - 4 := by rw [List.length_take]; omega
 obtain ⟨hf, hd⟩ := q68 om (fun z hz => hl z (List.mem_of_mem_take hz)) h
 refine ⟨by omega, by omega, hf, ?_⟩
 rw [← hd]
 have e : ([113, 115, 1] : List Nat) = (l.take (l.length - 4)).take 3 := by
  rw [List.take_take, show min 3 (l.length - 4) = 3 by omega]
  match l, h1, h4, h5 with
  | a :: b :: c :: r, _, h4, h5 =>
   have h6 : a = 113 := h4.1
   have h7 : b = 115 := h4.2
   have h8 : c = 1 := h5
   subst h6; subst h7; subst h8
   rfl
  | [], h1, _, _ => exact absurd de h1
  | [_], h1, _, _ => exact absurd (by simp) h1
  | [_, _], h1, _, _ => exact absurd (by simp) h1
 rw [e, List.take_append_drop, q5e hl hs]
def rdE (l : List Nat) : Nat := match opnR l with
 | .ok p => if p.okB = true ∧ chkS p.snA = 0 then 0 else 347
 | .error k => k
def qf3 : Snm := ⟨0, ⟨0, 0, none, 0, [], none, 0, [], none, 0, [], none, 0, [], none, 0, []⟩⟩
def rdS (l : List Nat) : Snm := match opnR l with
 | .ok p => if p.okB = true ∧ chkS p.snA = 0 then p.snA else qf3
 | .error _ => qf3
section
variable {l : List Nat} {p : Pr} {k : Nat}
theorem rd_no (h : opnR l = .error k) : rdE l = k ∧ rdS l = qf3 := by unfold rdE rdS; rw [h]; exact ⟨rfl, rfl⟩
theorem qsw (h : opnR l = .ok p) (h2 : ¬ (p.okB = true ∧ chkS p.snA = 0)) : rdE l = 347 ∧ rdS l = qf3 := by unfold rdE rdS; rw [h]; exact ⟨if_neg h2, if_neg h2⟩
theorem q9q (h : opnR l = .ok p) (h2 : p.okB = true ∧ chkS p.snA = 0) : rdE l = 0 ∧ rdS l = p.snA := by unfold rdE rdS; rw [h]; exact ⟨if_pos h2, if_pos h2⟩
end
theorem q3k {b : List Nat} {p : Pr} (hb : 3 ≤ b.length) (h : prs b = .ok p) : 3 ≤ p.e1 ∧ p.e1 ≤ p.e2 ∧ p.e2 ≤ p.e3 ∧ p.e3 ≤ p.e4 ∧ p.e4 ≤ p.e5 ∧ p.e5 ≤ p.e6 ∧ p.e6 ≤ p.e7 ∧ p.e7 = b.length := by
 obtain ⟨nx, e1, h1, h⟩ := qhs h
 obtain ⟨cp, a1, h2, c2, h⟩ := qej h
 obtain ⟨cr, a2, h3, h⟩ := qhs h
 obtain ⟨gp, e2, h4, c4, h⟩ := qej h
 obtain ⟨gs, e3, h5, h⟩ := qbl h
 obtain ⟨cl, e4, h6, h⟩ := qbl h
 obtain ⟨cu, e5, h7, h⟩ := qbl h
 obtain ⟨tk, a3, h8, c8, h⟩ := qej h
 obtain ⟨ts, e6, h9, h⟩ := qbl h
 obtain ⟨sp, e7, h10, h⟩ := qbl h
 unfold prs10 at h
 split at h
 ·cases h
 rename_i he
 injection h with h
 subst h
 have i1 := h1.2
 have i2 := h2.2
 have i3 := h3.2
 have i4 := h4.2
 have i5 := h5.2
 have i6 := h6.2
 have i7 := h7.2
 have i8 := h8.2
 have i9 := h9.2
 have i10 := h10.2
 refine ⟨i1, ?_, i5, i6, i7, ?_, i10, Decidable.of_not_not he⟩
 ·show e1 ≤ e2; omega
 ·show e5 ≤ e6; omega
theorem q3l {l : List Nat} {p : Pr} (hl : ∀ z ∈ l, z < 256) (h : opnR l = .ok p) : 3 ≤ p.e1 ∧ p.e1 ≤ p.e2 ∧ p.e2 ≤ p.e3 ∧ p.e3 ≤ p.e4 ∧ p.e4 ≤ p.e5 ∧ p.e5 ≤ p.e6 ∧ p.e6 ≤ p.e7 ∧ p.e7 + 4 = l.length := by
 have h0 := qzv hl h
 unfold opnR at h
 repeat (split at h; · cases h)
 have hlen : (l.take (l.length - 4)).length = l.length - 4 := by rw [List.length_take]; omega
 have := q3k om h
 omega
theorem qmn (p : Pr) : p.secs.length = 9 := rfl
theorem q4x {l : List Nat} {p : Pr} (hl : ∀ z ∈ l, z < 256) (h : opnR l = .ok p) {i : Nat} (hi : i < p.secs.length) : (p.secs.getD i Sec.zero).fr ≤ (p.secs.getD i Sec.zero).to ∧ (p.secs.getD i Sec.zero).to ≤ l.length := by
 obtain ⟨h1, h2, h3, h4, h5, h6, h7, h8⟩ := q3l hl h
 rw [qmn] at hi
 unfold Pr.secs qd
 match i, hi with
 | 0, _ => exact ⟨Nat.zero_le _, show 3 ≤ l.length by omega⟩
 | 1, _ => exact ⟨h1, show p.e1 ≤ l.length by omega⟩
 | 2, _ => exact ⟨h2, show p.e2 ≤ l.length by omega⟩
 | 3, _ => exact ⟨h3, show p.e3 ≤ l.length by omega⟩
 | 4, _ => exact ⟨h4, show p.e4 ≤ l.length by omega⟩
 | 5, _ => exact ⟨h5, show p.e5 ≤ l.length by omega⟩
 | 6, _ => exact ⟨h6, show p.e6 ≤ l.length by omega⟩
 | 7, _ => exact ⟨h7, show p.e7 ≤ l.length by omega⟩
 | 8, _ => exact ⟨show p.e7 ≤ p.e7 + 4 by omega, show p.e7 + 4 ≤ l.length by omega⟩
def cutB (l : List Nat) (x : Sec) : List Nat := (l.take x.to).drop x.fr
theorem q4y {l : List Nat} (hl : ∀ z ∈ l, z < 256) (x : Sec) : ∀ z ∈ cutB l x, z < 256 := fun z hz => hl z (List.mem_of_mem_take (List.mem_of_mem_drop hz))
theorem q4z {w : World} {B c : Nat} {A : Option Addr} {l : List Nat} {x : Sec} (h : Rd w B 1 A l.length (l.map B8)) (h1 : x.fr ≤ x.to ∧ x.to ≤ l.length) (hc : l.length ≤ c) : Rd w B 1 (if c = x.fr then A else A.map (·.add (x.fr * 1))) (x.to - x.fr) ((cutB l x).map B8) := h.q99 h1.1 h1.2 hc
def difF (a b : List Nat) (X Y : List Sec) : Nat → Nat → ByteArray
 | 0, _ => ⟨#[]⟩
 | f + 1, i => if cutB a (X.getD i Sec.zero) = cutB b (Y.getD i Sec.zero) then difF a b X Y f (i + 1) else (X.getD i Sec.zero).nm
def difE (a b : List Nat) : Nat := if errR a = 0 then errR b else errR a
def difN (a b : List Nat) : ByteArray := match opnR a, opnR b with
 | .ok p, .ok q => difF a b p.secs q.secs 9 0
 | _, _ => ⟨#[]⟩
section
variable {a b : List Nat} {p q : Pr} {k : Nat} {X Y : List Sec} {i : Nat}
theorem q7f (h : opnR a = .error k) : difE a b = k ∧ difN a b = ⟨#[]⟩ := by
 have := qgz h
 unfold difE difN
 rw [qe2 h, h, if_neg om]
 exact ⟨rfl, rfl⟩
theorem q7g (h : opnR a = .ok p) (h2 : opnR b = .error k) : difE a b = k ∧ difN a b = ⟨#[]⟩ := by
 unfold difE difN
 rw [qg0 h, qe2 h2, h, h2, if_pos rfl]
 exact ⟨rfl, rfl⟩
theorem q9r (h : opnR a = .ok p) (h2 : opnR b = .ok q) : difE a b = 0 ∧ difN a b = difF a b p.secs q.secs (9 - 0) 0 := by
 unfold difE difN
 rw [qg0 h, qg0 h2, h, h2, if_pos rfl]
 exact ⟨rfl, rfl⟩
theorem q3m (hi : i < 9) (h : cutB a (X.getD i Sec.zero) = cutB b (Y.getD i Sec.zero)) : difF a b X Y (9 - i) i = difF a b X Y (9 - (i + 1)) (i + 1) := by
 rw [show 9 - i = (9 - (i + 1)) + 1 by omega]
 exact if_pos h
theorem q3n (hi : i < 9) (h : ¬ cutB a (X.getD i Sec.zero) = cutB b (Y.getD i Sec.zero)) : difF a b X Y (9 - i) i = (X.getD i Sec.zero).nm := by
 rw [show 9 - i = (9 - (i + 1)) + 1 by omega]
 exact if_neg h
theorem q7h (hi : ¬ i < 9) : difF a b X Y (9 - i) i = ⟨#[]⟩ := by
 rw [show 9 - i = 0 by omega]
 rfl
end
theorem Mem.zeroSt {W w : World} (h : Mem W w []) : Mem W w (stF qf3.st) := ((((h.nil 64 1).nil 61 8).nil 3 1).nil 3 1).nil 110 2
theorem q3o : StCap qf3.st := ⟨Nat.le_refl _, Nat.le_refl _, Nat.le_refl _, Nat.le_refl _, Nat.le_refl _, fun y hy => by cases hy⟩
theorem qzw (s : Snm) : SnEq s s := sn_of rfl (qt7 _)
def qsx (w : World) (er : Nat) (s : Snm) (r : Ending) (w' : World) : Prop := ∃ z : Snm, r = .returned (.tuple #[.agg z.cells, .int .i64 (er : Int)]) ∧ SnEq s z ∧ StCap z.st ∧ Mem w w' (stF z.st)
theorem qe5 {w w' : World} {er k : Nat} {s : Snm} {r : Ending} (h : er = k ∧ s = qf3) (hr : r = .returned (.tuple #[.agg qf3.cells, .int .i64 (k : Int)])) (I : Mem w w' []) : qsx w er s r w' := by
 obtain ⟨rfl, rfl⟩ := h
 exact ⟨qf3, hr, qzw _, q3o, I.zeroSt⟩
theorem qzx {w w' : World} {er : Nat} {s t z : Snm} {r : Ending} (h : er = 0 ∧ s = t) (hr : r = .returned (.tuple #[.agg z.cells, .int .i64 0])) (hz : SnEq t z) (hc : StCap z.st) (I : Mem w w' (stF z.st)) : qsx w er s r w' := by
 obtain ⟨rfl, rfl⟩ := h
 exact ⟨z, hr, hz, hc, I⟩
theorem q9s {s z : Snm} (h : SnEq s z) (hok : s.st.sta.Ok) : z.st.sta.Ok := by rw [qrq (qxi h)]; exact hok
section
variable {s : Snm} {m : List Nat}
theorem q40 (h : SnRight s) (hm : m.length = (sealL (bodyS s)).length) (h2 : q7 m = false) : opnR m = .error 341 := by
 have := h.len
 exact qzj om om h2
theorem q3q (h : SnRight s) {at0 p : Nat} (h0 : at0 < 8 * (sealL (bodyS s)).length) (hp : p % 2 = 1) : opnR (qae (sealL (bodyS s)) at0 p 32) = .error 341 :=
 q40 h (z9 _ _ _ _) (qju (qdy (qgs s)) qie h0 hp)
theorem q3r (h : SnRight s) (h4 : (sealL (bodyS s)).length ≤ 4096) {ps : List Nat} (hk : ∀ k, k < 3 → ps.getD k 0 < 8 * (sealL (bodyS s)).length) : opnR (qbr (sealL (bodyS s)) ps 3) = .error 341 := by
 have hl := qdy (qgs s)
 refine q40 h (qaa _ _ _) (qjd hl (qcb hl ps 3) (qaa _ _ _) qie ?_)
 have a0 := hk 0 de
 have a1 := hk 1 de
 have a2 := hk 2 de
 rw [qbr, qf7 (qcb hl ps 2) (by rw [qaa]; omega), qbr, qf7 (qcb hl ps 1) (by rw [qaa]; omega), qbr, qf7 (qcb hl ps 0) (by rw [qaa]; omega), qbr]
 rw [← Nat.xor_assoc, ← Nat.xor_assoc, ← Nat.xor_assoc, Nat.xor_self, Nat.zero_xor]
 exact qz1 a0 a1 a2 om
end
def NumIs (W : World) (g p : Nat) (A : Option Addr) (c : Nat) (b q : List Nat) (sv : Value) (fs : List Fact) (r : Ending) (w' : World) : Prop :=
 (∃ x e NA nc, NumAt b p x e ∧ r = .returned (vQ x) ∧ (q ++ [x]).length ≤ nc ∧ Mem W w' (.blk g #[.slice A b.length c, vI e, .slice NA (q ++ [x]).length nc, sv] 130 :: .row (.slice NA (q ++ [x]).length nc) (q ++ [x]).length ((q ++ [x]).map U64) 30 1 :: fs)) ∨ ((vread (b.drop p)).2.2 ≠ 0 ∧ Dies W fs (pan errT 344) r w')
theorem q3v {W w' : World} {g p : Nat} {A : Option Addr} {c : Nat} {b q : List Nat} {sv : Value} {fs : List Fact} {r : Ending} (h : (vread (b.drop p)).2.2 ≠ 0) (hd : Dies W fs (pan errT 344) r w') : NumIs W g p A c b q sv fs r w' := .inr ⟨h, hd⟩
theorem q3w {W w' : World} {g p : Nat} {A : Option Addr} {c : Nat} {b q : List Nat} {sv : Value} {fs : List Fact} {r : Ending} {x e nc : Nat} {NA : Option Addr} (h : NumAt b p x e) (hr : r = .returned (vQ x)) (hc : (q ++ [x]).length ≤ nc) (hm : Mem W w' (.blk g #[.slice A b.length c, vI e, .slice NA (q ++ [x]).length nc, sv] 130 :: .row (.slice NA (q ++ [x]).length nc) (q ++ [x]).length ((q ++ [x]).map U64) 30 1 :: fs)) : NumIs W g p A c b q sv fs r w' := .inl ⟨x, e, NA, nc, h, hr, hc, hm⟩
theorem qk4 (W w : World) (g p : Nat) (A NA : Option Addr) (c nc : Nat) (b q : List Nat) (sv : Value) (fs : List Fact) (HW : Mem W w (.blk g #[.slice A b.length c, vI p, .slice NA q.length nc, sv] 130 :: .row (.slice NA q.length nc) q.length (q.map U64) 30 1 :: fs)) (hin : Rd W W.heap.size 1 A b.length (b.map B8)) (hbc : b.length ≤ c) (hl : ∀ z ∈ b, z < 256) (hb : b.length ≤ 16777216) (ha : p ≤ b.length) (hq : q.length ≤ p) :
    Calls Tryz.prog 135 #[vP g 0] w (NumIs W g p A c b q sv fs) := by
 refine (JN1 Tryz.func135 42) ?_
 intro a Z I
 replace I := HW
 have hv : ∃ x n er, vread (b.drop p) = (x, n, er) := ⟨_, _, _, rfl⟩
 obtain ⟨x, n, er, hv⟩ := hv
 have hl2 : ∀ z ∈ b.drop p, z < 256 := fun z hz => hl z (List.mem_of_mem_drop hz)
 have hdl : (b.drop p).length = b.length - p := List.length_drop
 refine Jb Z I ((JP∘Jp 1∘Jj) fun a Z I => ?_)
 refine wp_seq ?_
 refine Jb Z I ((Vs .n []) fun wd1 => (Vp [0, 4]∘Vn 1∘Vf 2 0∘Vc 3 O0∘Vn 5∘Vf 6 1∘Vc 7 O0∘Vy 8 (v := .slice (if c = p then A else A.map (·.add (p * 1))) (b.length - p) (c - p)) (h:=by exact Yl.sliceFrom ei_u8 (j := p) rfl rfl rfl om)∘Vo (.slice (if c = p then A else A.map (·.add (p * 1))) ((b.drop p).length) (c - p)) (by rw [List.length_drop])∘VI 9 .n (h:=by exact fun I => q3c hv (rd_at (I.old hin) ha hbc) hl2 om)) fun w16 hbw => (Vp [10]∘Vx 11∘Vx 12∘Vx 13∘Vp [14, 15, 16]∘Vd∘JQ∘JP∘Jp 2∘Jd2∘Jj) (Ju (fun hb21 => ?_) fun hb21 => ?_))
 ·
  intro a Z I
  have hd21 := bne_iff_ne.1 hb21
  refine Jb Z I ((JT∘JR) fun a Z I => ?_)
  refine fo Z 0 rfl rfl ?_
  exact qa9 Z [vI 344] rfl (qhr 344 _ (I.pt 2 [])) fun w2 I => qc8 Z (q3v (qzf hv hd21) ⟨rfl, I⟩)
 intro a Z I
 have hd21 := bne_eq_false_iff_eq.1 hb21
 have her : er = 0 := by omega
 revert I; revert a; repeat (first | clear Z | clear I)
 intro a Z I
 subst her
 have hin2 := qsk ha hv
 refine Jb Z I ((JF∘JS'∘JP∘Jp 1∘Jn∘Jg 1 O0∘Jp 1∘Ja∘Jn∘Jf 1∘JW O0' O1') fun w4_8 => (Jt6∘Jr∘Jp 2∘Jn∘Jg 2 O0∘Jp 1∘JU qas #[vQ x]) fun w37 g37 => (JD [U64 x] 2 (fun _ _ => O2') qas (hr:=by exact fun I => I.rdBlk (i := 0) (n := 1) (size := 1) rfl rfl) (h1:=by simp [Value.oneCell', U64, B8])) fun w38 A38 c38 hc38 => (Jn∘Jf 2∘JW O1' O2') fun w5_10 => (Jt6∘Jq) fun a Z I => ?_)
 have hnA38 : q.length + 1 = (q ++ [x]).length := zk rfl
 replace I := I.reRow (i := 2) (ys := (q ++ [x]).map U64) rfl hnA38 (by simp)
 rw [hnA38] at hc38
 replace I := I.reBlk (i := 1) (ds := #[.slice A b.length c, vI (p + n : Nat), .slice A38 ((q ++ [x]).length) c38, sv]) rfl (by rw [hnA38]; try rfl)
 exact Jb Z I ((JG∘JP∘Jp 2∘Jd5∘Jj∘JZ∘Jz1) fun I => q3w (.of hv) rfl hc38 (I.pt 3 [1, 2]))
theorem qf8 (W w : World) (g p : Nat) (A NA : Option Addr) (c nc : Nat) (b q : List Nat) (sv : Value) (fs : List Fact) (HW : Mem W w (.blk g #[.slice A b.length c, vI p, .slice NA q.length nc, sv] 130 :: .row (.slice NA q.length nc) q.length (q.map U64) 30 1 :: fs)) (hin : Rd W W.heap.size 1 A b.length (b.map B8)) (hbc : b.length ≤ c) (hl : ∀ z ∈ b, z < 256) (hb : b.length ≤ 16777216) (ha : p ≤ b.length) (hq : q.length ≤ p) {x e : Nat} (h : NumAt b p x e) :
  Calls Tryz.prog 135 #[vP g 0] w (fun r w' => r = .returned (vQ x) ∧ ∃ NA nc, (q ++ [x]).length ≤ nc ∧ Mem W w' (.blk g #[.slice A b.length c, vI e, .slice NA (q ++ [x]).length nc, sv] 130 :: .row (.slice NA (q ++ [x]).length nc) (q ++ [x]).length ((q ++ [x]).map U64) 30 1 :: fs)) :=
 (qk4 W w g p A NA c nc b q sv fs HW hin hbc hl hb ha hq).mono fun r w' h1 => by
  rcases h1 with ⟨x2, e2, NA, nc, h2, h3, h4, h5⟩ | ⟨h2, _⟩
  ·obtain ⟨rfl, rfl⟩ := NumAt.one h h2
   exact ⟨h3, NA, nc, h4, h5⟩
  ·rw [h.1] at h2; exact absurd rfl h2
theorem qf9 (W w : World) (g p : Nat) (A NA : Option Addr) (c nc : Nat) (b q : List Nat) (sv : Value) (fs : List Fact) (HW : Mem W w (.blk g #[.slice A b.length c, vI p, .slice NA q.length nc, sv] 130 :: .row (.slice NA q.length nc) q.length (q.map U64) 30 1 :: fs)) (hin : Rd W W.heap.size 1 A b.length (b.map B8)) (hbc : b.length ≤ c) (hl : ∀ z ∈ b, z < 256) (hb : b.length ≤ 16777216) (ha : p ≤ b.length) (hq : q.length ≤ p) (h : (vread (b.drop p)).2.2 ≠ 0) :
  Calls Tryz.prog 135 #[vP g 0] w (Dies W fs (pan errT 344)) :=
 (qk4 W w g p A NA c nc b q sv fs HW hin hbc hl hb ha hq).mono fun r w' h1 => by
  rcases h1 with ⟨x2, e2, NA, nc, h2, h3, h4, h5⟩ | ⟨_, h2⟩
  ·rw [h2.1] at h; exact absurd rfl h
  ·exact h2
def CntIs (W : World) (g p : Nat) (A : Option Addr) (c : Nat) (b q : List Nat) (sv : Value) (lo hi : Nat) (fs : List Fact) (r : Ending) (w' : World) : Prop :=
 (∃ x e NA nc, NumAt b p x e ∧ ¬ (x < lo ∨ hi < x) ∧ r = .returned (vI x) ∧ (q ++ [x]).length ≤ nc ∧ Mem W w' (.blk g #[.slice A b.length c, vI e, .slice NA (q ++ [x]).length nc, sv] 130 :: .row (.slice NA (q ++ [x]).length nc) (q ++ [x]).length ((q ++ [x]).map U64) 30 1 :: fs)) ∨ ((∃ x e, NumAt b p x e ∧ (x < lo ∨ hi < x)) ∧ Dies W fs (pan errT 345) r w') ∨ ((vread (b.drop p)).2.2 ≠ 0 ∧ Dies W fs (pan errT 344) r w')
theorem q3x {W w' : World} {g p : Nat} {A : Option Addr} {c : Nat} {b q : List Nat} {sv : Value} {fs : List Fact} {r : Ending} {lo hi : Nat} (h : (vread (b.drop p)).2.2 ≠ 0) (hd : Dies W fs (pan errT 344) r w') : CntIs W g p A c b q sv lo hi fs r w' := .inr (.inr ⟨h, hd⟩)
theorem qo3 {W w' : World} {g p : Nat} {A : Option Addr} {c : Nat} {b q : List Nat} {sv : Value} {fs : List Fact} {r : Ending} {lo hi x e : Nat} (h : NumAt b p x e) (h2 : x < lo ∨ hi < x) (hd : Dies W fs (pan errT 345) r w') : CntIs W g p A c b q sv lo hi fs r w' := .inr (.inl ⟨⟨x, e, h, h2⟩, hd⟩)
theorem q3y {W w' : World} {g p : Nat} {A : Option Addr} {c : Nat} {b q : List Nat} {sv : Value} {fs : List Fact} {r : Ending} {lo hi x e nc : Nat} {NA : Option Addr} (h : NumAt b p x e) (h2 : ¬ (x < lo ∨ hi < x)) (hr : r = .returned (vI x)) (hc : (q ++ [x]).length ≤ nc) (hm : Mem W w' (.blk g #[.slice A b.length c, vI e, .slice NA (q ++ [x]).length nc, sv] 130 :: .row (.slice NA (q ++ [x]).length nc) (q ++ [x]).length ((q ++ [x]).map U64) 30 1 :: fs)) : CntIs W g p A c b q sv lo hi fs r w' := .inl ⟨x, e, NA, nc, h, h2, hr, hc, hm⟩
theorem qje (W w : World) (g p : Nat) (A NA : Option Addr) (c nc : Nat) (b q : List Nat) (sv : Value) (fs : List Fact) (lo hi : Nat) (hhi : hi < 9223372036854775808) (HW : Mem W w (.blk g #[.slice A b.length c, vI p, .slice NA q.length nc, sv] 130 :: .row (.slice NA q.length nc) q.length (q.map U64) 30 1 :: fs)) (hin : Rd W W.heap.size 1 A b.length (b.map B8)) (hbc : b.length ≤ c) (hl : ∀ z ∈ b, z < 256) (hb : b.length ≤ 16777216) (ha : p ≤ b.length) (hq : q.length ≤ p) :
    Calls Tryz.prog 136 #[vP g 0, vQ lo, vQ hi] w (CntIs W g p A c b q sv lo hi fs) := by
 refine (JN3 Tryz.func136 21) ?_
 intro a Z I
 replace I := HW
 refine Jb Z I ((JP∘Jp 1∘Jj∘JQ) fun a Z I => ?_)
 rcases qky b p with hv | ⟨x, e, hv⟩
 ·
  refine Jb Z I ((JR∘Jp 1) fun a Z I => ?_)
  refine fo Z 1 rfl rfl ?_
  exact qa9 Z [vP g 0] rfl (qf9 W _ g p A NA c nc b q sv _ (I.pt 2 [0, 1]) hin hbc hl hb ha hq hv) fun w2 I => qc8 Z (q3x hv ⟨rfl, (I)⟩)
 ·
  have hx := hv.lt hl
  refine Jb Z I ((JR∘Jp 1∘JL (h:=by exact fun I => qf8 W _ g p A NA c nc b q sv _ (I.pt 2 [0, 1]) hin hbc hl hb ha hq hv)) ?_)
  rintro I _ w9 ⟨rfl, A9, c9, hc9, HM2⟩
  refine ⟨_, rfl, _, HM2, ?_⟩
  refine (Jp 1∘Jd2∘Jj∘JQ∘JP∘Jp 4) (Ju (fun hb13 => ?_) fun hb13 => ?_)
  ·
   intro a Z I
   have hd13 := of_decide_eq_true hb13
   refine Jb Z I ((Jp 4∘Jd6∘Jj∘JT∘JR) fun a Z I => ?_)
   refine fo Z 0 rfl rfl ?_
   exact qa9 Z [vI 345] rfl (qhr 345 _ (I.pt 2 [])) fun w2 I => qc8 Z (qo3 hv (.inl om) ⟨rfl, I⟩)
  intro a Z I
  have hd13 := of_decide_eq_false hb13
  refine Jb Z I ((Jp 4∘Jd6∘Jj) (Ji (fun hd17 => ?_) fun hd17 => ?_))
  ·
   refine (JT∘JR) fun a Z I => ?_
   refine fo Z 0 rfl rfl ?_
   exact qa9 Z [vI 345] rfl (qhr 345 _ (I.pt 2 [])) fun w2 I => qc8 Z (qo3 hv (.inr om) ⟨rfl, I⟩)
  exact (JF∘JS'∘JP∘Jp 1∘Jw .i64∘Jp 1∘Jd2∘Jj∘JZ∘Jz1) fun I => q3y hv om rfl hc9 (I.pt 2 [0, 1])
theorem qhu (W w : World) (g p : Nat) (A NA : Option Addr) (c nc : Nat) (b q : List Nat) (sv : Value) (fs : List Fact) (lo hi : Nat) (hhi : hi < 9223372036854775808) (HW : Mem W w (.blk g #[.slice A b.length c, vI p, .slice NA q.length nc, sv] 130 :: .row (.slice NA q.length nc) q.length (q.map U64) 30 1 :: fs)) (hin : Rd W W.heap.size 1 A b.length (b.map B8)) (hbc : b.length ≤ c) (hl : ∀ z ∈ b, z < 256) (hb : b.length ≤ 16777216) (ha : p ≤ b.length) (hq : q.length ≤ p) {x e : Nat} (h : NumAt b p x e) (hh : ¬ (x < lo ∨ hi < x)) :
  Calls Tryz.prog 136 #[vP g 0, vQ lo, vQ hi] w (fun r w' => r = .returned (vI x) ∧ ∃ NA nc, (q ++ [x]).length ≤ nc ∧ Mem W w' (.blk g #[.slice A b.length c, vI e, .slice NA (q ++ [x]).length nc, sv] 130 :: .row (.slice NA (q ++ [x]).length nc) (q ++ [x]).length ((q ++ [x]).map U64) 30 1 :: fs)) :=
 (qje W w g p A NA c nc b q sv fs lo hi hhi HW hin hbc hl hb ha hq).mono fun r w' h1 => by
  rcases h1 with ⟨x2, e2, NA, nc, h2, _, h3, h4, h5⟩ | ⟨⟨x2, e2, h2, h3⟩, _⟩ | ⟨h2, _⟩
  ·obtain ⟨rfl, rfl⟩ := NumAt.one h h2
   exact ⟨h3, NA, nc, h4, h5⟩
  ·obtain ⟨rfl, rfl⟩ := NumAt.one h h2
   exact absurd h3 hh
  ·rw [h.1] at h2; exact absurd rfl h2
theorem qjf (W w : World) (g p : Nat) (A NA : Option Addr) (c nc : Nat) (b q : List Nat) (sv : Value) (fs : List Fact) (lo hi : Nat) (hhi : hi < 9223372036854775808) (HW : Mem W w (.blk g #[.slice A b.length c, vI p, .slice NA q.length nc, sv] 130 :: .row (.slice NA q.length nc) q.length (q.map U64) 30 1 :: fs)) (hin : Rd W W.heap.size 1 A b.length (b.map B8)) (hbc : b.length ≤ c) (hl : ∀ z ∈ b, z < 256) (hb : b.length ≤ 16777216) (ha : p ≤ b.length) (hq : q.length ≤ p) {x e : Nat} (h : NumAt b p x e) (hh : x < lo ∨ hi < x) :
  Calls Tryz.prog 136 #[vP g 0, vQ lo, vQ hi] w (Dies W fs (pan errT 345)) :=
 (qje W w g p A NA c nc b q sv fs lo hi hhi HW hin hbc hl hb ha hq).mono fun r w' h1 => by
  rcases h1 with ⟨x2, e2, NA, nc, h2, h3, _⟩ | ⟨_, h2⟩ | ⟨h2, _⟩
  ·obtain ⟨rfl, rfl⟩ := NumAt.one h h2
   exact absurd hh h3
  ·exact h2
  ·rw [h.1] at h2; exact absurd rfl h2
theorem qmr (W w : World) (g p : Nat) (A NA : Option Addr) (c nc : Nat) (b q : List Nat) (sv : Value) (fs : List Fact) (lo hi : Nat) (hhi : hi < 9223372036854775808) (HW : Mem W w (.blk g #[.slice A b.length c, vI p, .slice NA q.length nc, sv] 130 :: .row (.slice NA q.length nc) q.length (q.map U64) 30 1 :: fs)) (hin : Rd W W.heap.size 1 A b.length (b.map B8)) (hbc : b.length ≤ c) (hl : ∀ z ∈ b, z < 256) (hb : b.length ≤ 16777216) (ha : p ≤ b.length) (hq : q.length ≤ p) (h : (vread (b.drop p)).2.2 ≠ 0) :
  Calls Tryz.prog 136 #[vP g 0, vQ lo, vQ hi] w (Dies W fs (pan errT 344)) :=
 (qje W w g p A NA c nc b q sv fs lo hi hhi HW hin hbc hl hb ha hq).mono fun r w' h1 => by
  rcases h1 with ⟨x2, e2, NA, nc, h2, _⟩ | ⟨⟨x2, e2, h2, _⟩, _⟩ | ⟨_, h2⟩
  ·rw [h2.1] at h; exact absurd rfl h
  ·rw [h2.1] at h; exact absurd rfl h
  ·exact h2
def qz4 (W : World) (g p : Nat) (A : Option Addr) (c : Nat) (b q : List Nat) (sv : Value) (n : Nat) (fs : List Fact) (r : Ending) (w' : World) : Prop :=
 (∃ xs e NA nc, zm b n p xs e ∧ r = .returned (.tuple #[]) ∧ (q ++ xs).length ≤ nc ∧ Mem W w' (.blk g #[.slice A b.length c, vI e, .slice NA (q ++ xs).length nc, sv] 130 :: .row (.slice NA (q ++ xs).length nc) (q ++ xs).length ((q ++ xs).map U64) 30 1 :: fs)) ∨ ((readN n (b.drop p)).2.2 ≠ 0 ∧ Dies W fs (pan errT 344) r w')
theorem qz5 {W w' : World} {g p : Nat} {A : Option Addr} {c : Nat} {b q : List Nat} {sv : Value} {fs : List Fact} {r : Ending} {n : Nat} (h : (readN n (b.drop p)).2.2 ≠ 0) (hd : Dies W fs (pan errT 344) r w') : qz4 W g p A c b q sv n fs r w' := .inr ⟨h, hd⟩
theorem qz6 {W w' : World} {g p : Nat} {A : Option Addr} {c : Nat} {b q : List Nat} {sv : Value} {fs : List Fact} {r : Ending} {n e nc : Nat} {xs : List Nat} {NA : Option Addr} (h : zm b n p xs e) (hr : r = .returned (.tuple #[])) (hc : (q ++ xs).length ≤ nc) (hm : Mem W w' (.blk g #[.slice A b.length c, vI e, .slice NA (q ++ xs).length nc, sv] 130 :: .row (.slice NA (q ++ xs).length nc) (q ++ xs).length ((q ++ xs).map U64) 30 1 :: fs)) : qz4 W g p A c b q sv n fs r w' := .inl ⟨xs, e, NA, nc, h, hr, hc, hm⟩
theorem qs2 (W w : World) (g p : Nat) (A NA : Option Addr) (c nc : Nat) (b q : List Nat) (sv : Value) (fs : List Fact) (n : Nat) (hnn : n ≤ 1000000) (hnc : q.length ≤ nc) (HW : Mem W w (.blk g #[.slice A b.length c, vI p, .slice NA q.length nc, sv] 130 :: .row (.slice NA q.length nc) q.length (q.map U64) 30 1 :: fs)) (hin : Rd W W.heap.size 1 A b.length (b.map B8)) (hbc : b.length ≤ c) (hl : ∀ z ∈ b, z < 256) (hb : b.length ≤ 16777216) (ha : p ≤ b.length) (hq : q.length ≤ p) :
    Calls Tryz.prog 137 #[vP g 0, vI n] w (qz4 W g p A c b q sv n fs) := by
 refine (JN2 Tryz.func137 10) ?_
 intro a Z I
 replace I := HW
 refine Jb Z I ((JP∘Jp 2∘Jq) fun a Z I => ?_)
 rw [← List.append_nil q] at I
 refine Jb Z I ((JG∘JB) fun a Z I => ?_)
 refine qe (fun mS aS wS => ∃ (k : Nat) (xs : List Nat) (e : Nat) (NA : Option Addr) (nc : Nat), (zm b k p xs e) ∧ (k ≤ n) ∧ ((q ++ xs).length ≤ nc) ∧ mS = n - k ∧ Fr aS 10 [] [(0, vP g 0), (4, vI n), (5, vI k)] ∧ Mem W wS (.blk g #[.slice A b.length c, vI e, .slice NA ((q ++ xs).length) nc, sv] 130 :: .row (.slice NA ((q ++ xs).length) nc) ((q ++ xs).length) ((q ++ xs).map U64) 30 1 :: fs)) (m := n - 0) ⟨0, [], p, NA, nc, zm.nil b p, Nat.zero_le _, (by rw [List.append_nil]; exact hnc), rfl, Z.sub kr, I.pt 2 [0, 1]⟩ ?_
 clear Z I; rintro mS a w_ ⟨k, xs, e, NA, nc, hxs, hle, hnc, rfl, Z, I⟩
 have hin2 := hxs.in ha
 refine Jb Z I ((JP∘Jp 1∘Jj∘JQ) (Ji (fun hd6 => ?_) fun hd6 => ?_))
 ·
  refine (JT∘JS'∘JQ∘JB) fun a Z I => ?_
  have hkn : k < n := by omega
  rcases qky b e with hv | ⟨x, e2, hv⟩
  ·
   refine Jb Z I ((JR∘Jp 1) fun a Z I => ?_)
   refine fo Z 1 rfl rfl ?_
   exact qa9 Z [vP g 0] rfl (qf9 W _ g e A NA c nc b (q ++ xs) sv _ (I.pt 2 [0, 1]) hin hbc hl hb om (by rw [List.length_append]; omega) hv) fun w2 I => qc8 Z (qz5 (hxs.stuck hkn hv) ⟨rfl, I⟩)
  ·
   refine Jb Z I ((JR∘Jp 1∘JL (h:=by exact fun I => qf8 W _ g e A NA c nc b (q ++ xs) sv _ (I.pt 2 [0, 1]) hin hbc hl hb om (by rw [List.length_append]; omega) hv)) ?_)
   rintro I _ w8 ⟨rfl, A8, c8, hc8, HM2⟩
   refine ⟨_, rfl, _, HM2, ?_⟩
   refine (Jt2∘Jq) fun a Z I => ?_
   rw [List.append_assoc] at I
   refine Jb Z I ((JG∘JR∘JaK 1∘Jp 1∘Jd1∘Jq) fun a Z I => ?_)
   exact ⟨_, om, k + 1, (xs ++ [x]), e2, A8, c8, hxs.snoc hv, hkn, (by rwa [List.append_assoc] at hc8), rfl, Z.sub kr, I.pt 2 [0, 1]⟩
 refine (JF∘JX) ?_
 repeat (first | clear Z | clear I)
 intro a Z I
 obtain rfl : k = n := by omega
 exact norm0 rfl Z (qz6 hxs rfl hnc I)
theorem qjg (W w : World) (g p : Nat) (A NA : Option Addr) (c nc : Nat) (b q : List Nat) (sv : Value) (fs : List Fact) (n : Nat) (hnn : n ≤ 1000000) (hnc : q.length ≤ nc) (HW : Mem W w (.blk g #[.slice A b.length c, vI p, .slice NA q.length nc, sv] 130 :: .row (.slice NA q.length nc) q.length (q.map U64) 30 1 :: fs)) (hin : Rd W W.heap.size 1 A b.length (b.map B8)) (hbc : b.length ≤ c) (hl : ∀ z ∈ b, z < 256) (hb : b.length ≤ 16777216) (ha : p ≤ b.length) (hq : q.length ≤ p) {xs : List Nat} {e : Nat} (h : zm b n p xs e) :
  Calls Tryz.prog 137 #[vP g 0, vI n] w (fun r w' => r = .returned (.tuple #[]) ∧ ∃ NA nc, (q ++ xs).length ≤ nc ∧ Mem W w' (.blk g #[.slice A b.length c, vI e, .slice NA (q ++ xs).length nc, sv] 130 :: .row (.slice NA (q ++ xs).length nc) (q ++ xs).length ((q ++ xs).map U64) 30 1 :: fs)) :=
 (qs2 W w g p A NA c nc b q sv fs n hnn hnc HW hin hbc hl hb ha hq).mono fun r w' h1 => by
  rcases h1 with ⟨x2, e2, NA, nc, h2, h3, h4, h5⟩ | ⟨h2, _⟩
  ·obtain ⟨rfl, rfl⟩ := zm.one h h2
   exact ⟨h3, NA, nc, h4, h5⟩
  ·rw [h.1] at h2; exact absurd rfl h2
theorem qjh (W w : World) (g p : Nat) (A NA : Option Addr) (c nc : Nat) (b q : List Nat) (sv : Value) (fs : List Fact) (n : Nat) (hnn : n ≤ 1000000) (hnc : q.length ≤ nc) (HW : Mem W w (.blk g #[.slice A b.length c, vI p, .slice NA q.length nc, sv] 130 :: .row (.slice NA q.length nc) q.length (q.map U64) 30 1 :: fs)) (hin : Rd W W.heap.size 1 A b.length (b.map B8)) (hbc : b.length ≤ c) (hl : ∀ z ∈ b, z < 256) (hb : b.length ≤ 16777216) (ha : p ≤ b.length) (hq : q.length ≤ p) (h : (readN n (b.drop p)).2.2 ≠ 0) :
  Calls Tryz.prog 137 #[vP g 0, vI n] w (Dies W fs (pan errT 344)) :=
 (qs2 W w g p A NA c nc b q sv fs n hnn hnc HW hin hbc hl hb ha hq).mono fun r w' h1 => by
  rcases h1 with ⟨x2, e2, NA, nc, h2, h3, h4, h5⟩ | ⟨_, h2⟩
  ·rw [h2.1] at h; exact absurd rfl h
  ·exact h2
theorem q9t (W w : World) (g p : Nat) (iv nv : Value) (SA : Option Addr) (sc : Nat) (l : List Sec) (nm : ByteArray) (fs : List Fact) (HW : Mem W w (.blk g #[iv, vI p, nv, .slice SA l.length sc] 130 :: .row (.slice SA l.length sc) l.length (l.flatMap secL) 69 3 :: fs)) (hll : l.length ≤ 1000) :
    Calls Tryz.prog 134 #[vP g 0, .string nm] w (fun r w' => r = .returned (.tuple #[]) ∧ ∃ SA sc, (l ++ [(⟨nm, zp l, p⟩ : Sec)]).length ≤ sc ∧ Mem W w' (.blk g #[iv, vI p, nv, .slice SA (l ++ [(⟨nm, zp l, p⟩ : Sec)]).length sc] 130 :: .row (.slice SA (l ++ [(⟨nm, zp l, p⟩ : Sec)]).length sc) (l ++ [(⟨nm, zp l, p⟩ : Sec)]).length ((l ++ [(⟨nm, zp l, p⟩ : Sec)]).flatMap secL) 69 3 :: fs)) := by
 refine (JN2 Tryz.func134 38) ?_
 intro a Z I
 replace I := HW
 refine Jb Z I ((JP∘Jp 1∘Jj∘JQ∘JP∘Jp 1∘Jn∘Jg 3 O0∘Jl∘Jp 1∘Jd4∘Jr∘Jp 2∘Jd1∘Jj) (Ju (fun hb12 => ?_) fun hb12 => ?_))
 ·
  intro a Z I
  have hd12 := of_decide_eq_true hb12
  refine Jb Z I ((JT∘JR∘Jp 1∘Jn∘Jg 3 O0∘Jp 1∘JsK 1) ?_)
  repeat (first | clear Z | clear I)
  intro a Z I
  obtain ⟨gSA, rfl⟩ := qm (I.own (i := 1) rfl) (Nat.lt_of_le_of_lt (Nat.zero_le _) (show l.length - 1 < l.length from by omega))
  refine Jb Z I ((Jy (h:=by exact Yl.ix0 gSA (l.length - 1) 3 rfl rfl rfl)∘Jf 2∘Jy (v := vI ((l.getD (l.length - 1) Sec.zero).to)) (h:=by exact Yl.qs rfl rfl kr (fun _ h => h.qv qec (i := 1) rfl (k := (l.length - 1)) (off := 2) (x := (l.getD (l.length - 1) Sec.zero)) ((getD_at Sec.zero om)) rfl))∘Jo (vI (zp l)) (by exact rfl)∘Jp 1∘Jd6∘Jj∘Vs (.t (.f .n)) [16]) fun wd4 => (Vp [0, 1, 5, 6, 7]∘Vn 2∘Vf 3 3∘Vc 4 O0∘Vn 8∘Vf 9 1∘Vc 10 O0∘Vy 11 (v := .agg #[.string nm, vI (zp l), vI p]) (h:=by exact Yl.build (vs := [(0, .string nm), (1, vI (zp l)), (2, vI p)]) rfl kr kr)) fun a Z I HS => ?_)
  refine s_on Z 12 rfl (s_el Z I qst [(0, .agg #[.string nm, vI (zp l), vI p])] #[.string nm, vI (zp l), vI p] ?_)
  clear Z I; intro a w34 g34 Z I
  refine keepS (I.pt 3 [1]) (fun HS => ?_)
  refine s_on Z 13 rfl (qa2 Z I (i := 2) rfl qst rfl rfl rfl (news := ([(⟨nm, zp l, p⟩ : Sec)].flatMap secL)) (I.rdBlk (i := 0) (n := 1) (size := 3) rfl rfl) (qxf _) om om rfl de ?_)
  clear Z I; intro a w35 A35 c35 Z I hc35
  refine keepS (I.pt 3 [1]) (fun HS => ?_)
  refine Vb Z I HS ((Vn 14∘Vf 15 3) fun a Z I HS => ?_)
  refine s_on Z 16 rfl (s_es Z I 1 ?_)
  clear I; intro w4_16 I
  refine noS kr ?_
  refine qc kr ?_
  have hnA35 : l.length + 1 = (l ++ [(⟨nm, zp l, p⟩ : Sec)]).length := zk rfl
  replace I := I.reRow (i := 2) (ys := (l ++ [(⟨nm, zp l, p⟩ : Sec)]).flatMap secL) rfl hnA35 (List.flatMap_append.symm)
  rw [hnA35] at hc35
  replace Z := Z.sp 35 (.slice A35 ((l ++ [(⟨nm, zp l, p⟩ : Sec)]).length) c35) rfl (by rw [hnA35])
  replace I := I.reBlk (i := 1) (ds := #[iv, vI p, nv, .slice A35 ((l ++ [(⟨nm, zp l, p⟩ : Sec)]).length) c35]) rfl (by rw [hnA35]; try rfl)
  exact norm0 rfl Z ⟨rfl, A35, c35, hc35, I.pt 3 [1, 2]⟩
 intro a Z I
 have hd12 := of_decide_eq_false hb12
 replace Z := Z.sp 4 (vI (zp l)) rfl (by rw [q29 (l := l) om]; rfl)
 refine Jb Z I ((JF∘JS'∘Vs (.t (.f .n)) [16]) fun wd4 => (Vp [0, 1, 5, 6, 7]∘Vn 2∘Vf 3 3∘Vc 4 O0∘Vn 8∘Vf 9 1∘Vc 10 O0∘Vy 11 (v := .agg #[.string nm, vI (zp l), vI p]) (h:=by exact Yl.build (vs := [(0, .string nm), (1, vI (zp l)), (2, vI p)]) rfl kr kr)) fun a Z I HS => ?_)
 refine s_on Z 12 rfl (s_el Z I qst [(0, .agg #[.string nm, vI (zp l), vI p])] #[.string nm, vI (zp l), vI p] ?_)
 clear Z I; intro a w34 g34 Z I
 refine keepS (I.pt 3 [1]) (fun HS => ?_)
 refine s_on Z 13 rfl (qa2 Z I (i := 2) rfl qst rfl rfl rfl (news := ([(⟨nm, zp l, p⟩ : Sec)].flatMap secL)) (I.rdBlk (i := 0) (n := 1) (size := 3) rfl rfl) (qxf _) om om rfl de ?_)
 clear Z I; intro a w35 A35 c35 Z I hc35
 refine keepS (I.pt 3 [1]) (fun HS => ?_)
 refine Vb Z I HS ((Vn 14∘Vf 15 3) fun a Z I HS => ?_)
 refine s_on Z 16 rfl (s_es Z I 1 ?_)
 clear I; intro w4_16 I
 refine noS kr ?_
 refine qc kr ?_
 have hnA35 : l.length + 1 = (l ++ [(⟨nm, zp l, p⟩ : Sec)]).length := zk rfl
 replace I := I.reRow (i := 2) (ys := (l ++ [(⟨nm, zp l, p⟩ : Sec)]).flatMap secL) rfl hnA35 (List.flatMap_append.symm)
 rw [hnA35] at hc35
 replace Z := Z.sp 35 (.slice A35 ((l ++ [(⟨nm, zp l, p⟩ : Sec)]).length) c35) rfl (by rw [hnA35])
 replace I := I.reBlk (i := 1) (ds := #[iv, vI p, nv, .slice A35 ((l ++ [(⟨nm, zp l, p⟩ : Sec)]).length) c35]) rfl (by rw [hnA35]; try rfl)
 exact norm0 rfl Z ⟨rfl, A35, c35, hc35, I.pt 3 [1, 2]⟩
theorem qga (W w : World) (g p : Nat) (iv nv : Value) (SA : Option Addr) (sc : Nat) (l : List Sec) (nm : ByteArray) (fs : List Fact) (HW : Mem W w (.blk g #[iv, vI p, nv, .slice SA l.length sc] 130 :: .row (.slice SA l.length sc) l.length (l.flatMap secL) 69 3 :: fs)) (hll : l.length ≤ 1000) {l2 : List Sec} (h : l ++ [(⟨nm, zp l, p⟩ : Sec)] = l2) :
  Calls Tryz.prog 134 #[vP g 0, .string nm] w (fun r w' => r = .returned (.tuple #[]) ∧ ∃ SA sc, l2.length ≤ sc ∧ Mem W w' (.blk g #[iv, vI p, nv, .slice SA l2.length sc] 130 :: .row (.slice SA l2.length sc) l2.length (l2.flatMap secL) 69 3 :: fs)) := by
 subst h
 exact q9t W w g p iv nv SA sc l nm fs HW hll
def qs3 (W : World) (g : Nat) (A : Option Addr) (c : Nat) (b : List Nat) (fs : List Fact) (r : Ending) (w' : World) : Prop :=
 (∃ p NA nc SA sc, prs b = .ok p ∧ r = .returned (vI 0) ∧ p.nums.length ≤ nc ∧ p.secs.length ≤ sc ∧ Mem W w' (.blk g #[.slice A b.length c, vI ((b.length + 4 : Nat) : Int), .slice NA p.nums.length nc, .slice SA p.secs.length sc] 130 :: .row (.slice NA p.nums.length nc) p.nums.length (p.nums.map U64) 30 1 :: .row (.slice SA p.secs.length sc) p.secs.length (p.secs.flatMap secL) 69 3 :: fs)) ∨ (∃ k : Nat, prs b = .error k ∧ r = .returned (vI k) ∧ Mem W w' fs)
section
variable {W w : World} {g g2 c k i n : Nat} {A : Option Addr} {b : List Nat} {fs ks : List Fact} {σ : List (Nat × Value)} {a : Act}
theorem zg (Z : Fr a n [{ target := .fn (.func 133) [Value.pointer (some ⟨g2, 0, none⟩)].toArray, args := #[] }] σ) (h2 : σ.lookup 2 = some (vP g2 0)) (I : Mem W w ks) (hi : ks[i]? = some (.blk g2 #[vI 0] errT)) (hp : prs b = .error k) (j : List Nat) (hj : j.Nodup) (he : picks (ks.set i (.blk g2 #[vI k] errT)) j = fs) :
  Leaves Tryz.prog Tryz.f91 a.tmps (qs3 W g A c b fs) a.defers (.panicking (pan errT k)) w := by
 refine qvc (v := vI k) Z kr (qzk k 0 w I hi rfl) rfl fun w' hm => ⟨?_, .inr ⟨k, hp, rfl, hm.picks j hj he⟩⟩
 have hl := (List.getElem?_eq_some_iff.1 hi).1
 exact qau.cell1 (i := i) Z hm h2 (List.getElem?_set_self hl) kr rfl
theorem q3z (Z : Fr a n [{ target := .fn (.func 133) [Value.pointer (some ⟨g2, 0, none⟩)].toArray, args := #[] }] σ) (h2 : σ.lookup 2 = some (vP g2 0)) (I : Mem W w ks) (hi : ks[i]? = some (.blk g2 #[vI 0] errT)) (hk : ∀ w', Mem W w' (ks.set i (.blk g2 #[vI 0] errT)) → qs3 W g A c b fs (.returned (vI 0)) w') :
  Leaves Tryz.prog Tryz.f91 a.tmps (qs3 W g A c b fs) a.defers .returning w := by
 refine qze (v := vI 0) Z kr (qvd 0 w I hi rfl) rfl fun w' hm => ⟨?_, hk w' hm⟩
 have hl := (List.getElem?_eq_some_iff.1 hi).1
 exact qau.cell1 (i := i) Z hm h2 (List.getElem?_set_self hl) kr rfl
end
theorem qs4 (nx cp cr gp : Nat) (gs cl cu : List Nat) (tk : Nat) (ts sp : List Nat) (e1 e2 e3 e4 e5 e6 e7 : Nat) : (⟨nx, cp, cr, gp, gs, cl, cu, tk, ts, sp, e1, e2, e3, e4, e5, e6, e7⟩ : Pr).nums = ((((((((((([] : List Nat) ++ [nx]) ++ [cp]) ++ [cr]) ++ [gp]) ++ gs) ++ cl) ++ cu) ++ [tk]) ++ ts) ++ sp) := by simp [Pr.nums]
theorem qs5 (W w : World) (g : Nat) (A : Option Addr) (c : Nat) (b : List Nat) (HW : Mem W w [.blk g #[.slice A b.length c, vI 0, vN, vN] 130]) (hin : Rd W W.heap.size 1 A b.length (b.map B8)) (hbc : b.length ≤ c) (hl : ∀ z ∈ b, z < 256) (hb : b.length ≤ 16777216) (hb3 : 3 ≤ b.length) :
    Calls Tryz.prog 91 #[vP g 0] w (qs3 W g A c b []) := by
 refine qom (vs := [vP g 0]) Tryz.func91 rfl rfl kr (σ0 := [(0, vP g 0)]) rfl ?_
 intro a Z
 have I := Mem.start w
 replace I := (HW.nil 69 3).nil 30 1
 have hc0 : ([] : List Nat).length ≤ 0 := Nat.le_refl _
 have hp : prs b = prs b := rfl
 have hq0 : ([] : List Nat).length ≤ 3 := Nat.zero_le _
 refine Jb Z I ((JP∘JA #[vI 0]) fun w2 g2 => (Jr∘Jy (h:=by exact Yl.makeFunc (fst := []) (caps := [vP g2 0]) rfl rfl rfl)) fun a Z I => ?_)
 refine fo Z 1 rfl rfl ?_
 refine q61 Z (f := 133) (caps := [vP g2 0]) rfl rfl rfl ?_
 clear Z; intro a Z
 refine Jb Z I ((Jt1∘Jr∘Jp 1∘Jn∘Jf 1∘JW O3' O1') fun w2_3 => (Jt3∘Jr∘Jp 1∘JL (h:=by exact fun I => qga (l2 := [qd]) W _ g 3 _ _ none 0 ([] : List Sec) _ _ (I.pk [3, 2, 0, 1]) (Nat.le_of_ble_eq_true rfl) rfl)) ?_)
 rintro I _ w10 ⟨rfl, S10, k10, hk10, HM2⟩
 refine ⟨_, rfl, _, HM2, ?_⟩
 refine (Jt2∘Jq) fun a Z I => ?_
 replace I : Mem W _ [.blk g #[.slice A b.length c, vI 3, .slice none (([] : List Nat).length) 0, .slice S10 ([qd].length) k10] 130, .row (.slice S10 ([qd].length) k10) ([qd].length) ([qd].flatMap secL) 69 3, .blk g2 #[vI 0] 44, .row (.slice none (([] : List Nat).length) 0) (([] : List Nat).length) (([] : List Nat).map U64) 30 1] := I
 refine Jb Z I ((JG∘JQ) fun a Z I => ?_)
 rcases qky b 3 with hv_e1 | ⟨nx, e1, hv_e1⟩
 ·
  refine Jb Z I ((JR∘Jp 1) fun a Z I => ?_)
  refine fo Z 1 rfl rfl ?_
  exact qa9 Z [vP g 0] rfl (qf9 W _ g 3 A none c 0 b ([] : List Nat) (.slice S10 ([qd].length) k10) _ (I.pk [0, 3, 1, 2]) hin hbc hl hb hb3 hq0 hv_e1) fun w2 I => zg Z rfl I (i := 1) rfl (hp.trans (qmf hv_e1)) [] de rfl
 ·
  have hp := hp.trans hv_e1.go1
  have hi_e1 := hv_e1.in hb3
  have hq_e1 := q_le1 (x := nx) hq0 hi_e1.1
  refine Jb Z I ((JR∘Jp 1∘JL (h:=by exact fun I => qf8 W _ g 3 A none c 0 b ([] : List Nat) (.slice S10 ([qd].length) k10) _ (I.pk [0, 3, 1, 2]) hin hbc hl hb hb3 hq0 hv_e1)) ?_)
  rintro I _ w12 ⟨rfl, A12, c12, hc12, HM2⟩
  refine ⟨_, rfl, _, HM2, ?_⟩
  refine (Jt2∘Jr∘Jp 1∘JL (h:=by exact fun I => qga (l2 := [qd, ⟨qa 0, 3, e1⟩]) W _ g e1 _ _ S10 k10 ([qd]) _ _ (I.pk [0, 2, 1, 3]) (Nat.le_of_ble_eq_true rfl) rfl)) ?_
  rintro I _ w14 ⟨rfl, S14, k14, hk14, HM2⟩
  refine ⟨_, rfl, _, HM2, ?_⟩
  refine (Jt2∘Jq) fun a Z I => ?_
  replace I : Mem W _ [.blk g #[.slice A b.length c, vI e1, .slice A12 ((([] : List Nat) ++ [nx]).length) c12, .slice S14 ([qd, ⟨qa 0, 3, e1⟩].length) k14] 130, .row (.slice S14 ([qd, ⟨qa 0, 3, e1⟩].length) k14) ([qd, ⟨qa 0, 3, e1⟩].length) ([qd, ⟨qa 0, 3, e1⟩].flatMap secL) 69 3, .row (.slice A12 ((([] : List Nat) ++ [nx]).length) c12) ((([] : List Nat) ++ [nx]).length) ((([] : List Nat) ++ [nx]).map U64) 30 1, .blk g2 #[vI 0] 44] := I
  refine Jb Z I ((JG∘JQ) fun a Z I => ?_)
  rcases qsl b e1 1 64 with hv_a1 | ⟨cp, a1, hv_a1, hr_a1⟩ | ⟨cp, a1, hv_a1, hr_a1⟩
  ·
   refine Jb Z I ((JR∘Jp 1) fun a Z I => ?_)
   refine fo Z 1 rfl rfl ?_
   exact qa9 Z [vP g 0, vQ 1, vQ 64] rfl (qmr W _ g e1 A A12 c c12 b (([] : List Nat) ++ [nx]) (.slice S14 ([qd, ⟨qa 0, 3, e1⟩].length) k14) _ 1 64 de (I.pk [0, 2, 1, 3]) hin hbc hl hb hi_e1.2 hq_e1 hv_a1) fun w2 I => zg Z rfl I (i := 1) rfl (hp.trans (qmg hv_a1)) [] de rfl
  ·
   refine Jb Z I ((JR∘Jp 1) fun a Z I => ?_)
   refine fo Z 1 rfl rfl ?_
   exact qa9 Z [vP g 0, vQ 1, vQ 64] rfl (qjf W _ g e1 A A12 c c12 b (([] : List Nat) ++ [nx]) (.slice S14 ([qd, ⟨qa 0, 3, e1⟩].length) k14) _ 1 64 de (I.pk [0, 2, 1, 3]) hin hbc hl hb hi_e1.2 hq_e1 hv_a1 hr_a1) fun w2 I => zg Z rfl I (i := 1) rfl (hp.trans (hv_a1.bad hr_a1)) [] de rfl
  ·
   have hp := hp.trans (hv_a1.goC hr_a1)
   have hi_a1 := hv_a1.in hi_e1.2
   have hq_a1 := q_le1 (x := cp) hq_e1 hi_a1.1
   refine Jb Z I ((JR∘Jp 1∘JL (h:=by exact fun I => qhu W _ g e1 A A12 c c12 b (([] : List Nat) ++ [nx]) (.slice S14 ([qd, ⟨qa 0, 3, e1⟩].length) k14) _ 1 64 de (I.pk [0, 2, 1, 3]) hin hbc hl hb hi_e1.2 hq_e1 hv_a1 hr_a1)) ?_)
   rintro I _ w16 ⟨rfl, A16, c16, hc16, HM2⟩
   refine ⟨_, rfl, _, HM2, ?_⟩
   refine (Jp 1∘Jd2∘Jj∘JQ) fun a Z I => ?_
   rcases qky b a1 with hv_a2 | ⟨cr, a2, hv_a2⟩
   ·
    refine Jb Z I ((JR∘Jp 1) fun a Z I => ?_)
    refine fo Z 1 rfl rfl ?_
    exact qa9 Z [vP g 0] rfl (qf9 W _ g a1 A A16 c c16 b ((([] : List Nat) ++ [nx]) ++ [cp]) (.slice S14 ([qd, ⟨qa 0, 3, e1⟩].length) k14) _ (I.pk [0, 1, 2, 3]) hin hbc hl hb hi_a1.2 hq_a1 hv_a2) fun w2 I => zg Z rfl I (i := 1) rfl (hp.trans (qmf hv_a2)) [] de rfl
   ·
    have hp := hp.trans hv_a2.go1
    have hi_a2 := hv_a2.in hi_a1.2
    have hq_a2 := q_le1 (x := cr) hq_a1 hi_a2.1
    refine Jb Z I ((JR∘Jp 1∘JL (h:=by exact fun I => qf8 W _ g a1 A A16 c c16 b ((([] : List Nat) ++ [nx]) ++ [cp]) (.slice S14 ([qd, ⟨qa 0, 3, e1⟩].length) k14) _ (I.pk [0, 1, 2, 3]) hin hbc hl hb hi_a1.2 hq_a1 hv_a2)) ?_)
    rintro I _ w18 ⟨rfl, A18, c18, hc18, HM2⟩
    refine ⟨_, rfl, _, HM2, ?_⟩
    refine (Jt2∘Jj∘JQ) fun a Z I => ?_
    rcases qsl b a2 1 256 with hv_e2 | ⟨gp, e2, hv_e2, hr_e2⟩ | ⟨gp, e2, hv_e2, hr_e2⟩
    ·
     refine Jb Z I ((JR∘Jp 1) fun a Z I => ?_)
     refine fo Z 1 rfl rfl ?_
     exact qa9 Z [vP g 0, vQ 1, vQ 256] rfl (qmr W _ g a2 A A18 c c18 b (((([] : List Nat) ++ [nx]) ++ [cp]) ++ [cr]) (.slice S14 ([qd, ⟨qa 0, 3, e1⟩].length) k14) _ 1 256 de (I.pk [0, 1, 2, 3]) hin hbc hl hb hi_a2.2 hq_a2 hv_e2) fun w2 I => zg Z rfl I (i := 1) rfl (hp.trans (qmg hv_e2)) [] de rfl
    ·
     refine Jb Z I ((JR∘Jp 1) fun a Z I => ?_)
     refine fo Z 1 rfl rfl ?_
     exact qa9 Z [vP g 0, vQ 1, vQ 256] rfl (qjf W _ g a2 A A18 c c18 b (((([] : List Nat) ++ [nx]) ++ [cp]) ++ [cr]) (.slice S14 ([qd, ⟨qa 0, 3, e1⟩].length) k14) _ 1 256 de (I.pk [0, 1, 2, 3]) hin hbc hl hb hi_a2.2 hq_a2 hv_e2 hr_e2) fun w2 I => zg Z rfl I (i := 1) rfl (hp.trans (hv_e2.bad hr_e2)) [] de rfl
    ·
     have hp := hp.trans (hv_e2.goC hr_e2)
     have hi_e2 := hv_e2.in hi_a2.2
     have hq_e2 := q_le1 (x := gp) hq_a2 hi_e2.1
     refine Jb Z I ((JR∘Jp 1∘JL (h:=by exact fun I => qhu W _ g a2 A A18 c c18 b (((([] : List Nat) ++ [nx]) ++ [cp]) ++ [cr]) (.slice S14 ([qd, ⟨qa 0, 3, e1⟩].length) k14) _ 1 256 de (I.pk [0, 1, 2, 3]) hin hbc hl hb hi_a2.2 hq_a2 hv_e2 hr_e2)) ?_)
     rintro I _ w20 ⟨rfl, A20, c20, hc20, HM2⟩
     refine ⟨_, rfl, _, HM2, ?_⟩
     refine (Jp 1∘Jd2∘Jq) fun a Z I => ?_
     have h3 : 3 * cp * (gp - 1) ≤ 192 * 255 := Nat.mul_le_mul om om
     refine Jb Z I ((JG∘JP∘Jp 1∘JL (h:=by exact fun I => qga (l2 := [qd, ⟨qa 0, 3, e1⟩, ⟨qa 1, e1, e2⟩]) W _ g e2 _ _ S14 k14 ([qd, ⟨qa 0, 3, e1⟩]) _ _ (I.pk [0, 2, 1, 3]) (Nat.le_of_ble_eq_true rfl) rfl)) ?_)
     rintro I _ w22 ⟨rfl, S22, k22, hk22, HM2⟩
     refine ⟨_, rfl, _, HM2, ?_⟩
     refine (Jt2∘Jq) fun a Z I => ?_
     replace I : Mem W _ [.blk g #[.slice A b.length c, vI e2, .slice A20 (((((([] : List Nat) ++ [nx]) ++ [cp]) ++ [cr]) ++ [gp]).length) c20, .slice S22 ([qd, ⟨qa 0, 3, e1⟩, ⟨qa 1, e1, e2⟩].length) k22] 130, .row (.slice S22 ([qd, ⟨qa 0, 3, e1⟩, ⟨qa 1, e1, e2⟩].length) k22) ([qd, ⟨qa 0, 3, e1⟩, ⟨qa 1, e1, e2⟩].length) ([qd, ⟨qa 0, 3, e1⟩, ⟨qa 1, e1, e2⟩].flatMap secL) 69 3, .row (.slice A20 (((((([] : List Nat) ++ [nx]) ++ [cp]) ++ [cr]) ++ [gp]).length) c20) (((((([] : List Nat) ++ [nx]) ++ [cp]) ++ [cr]) ++ [gp]).length) (((((([] : List Nat) ++ [nx]) ++ [cp]) ++ [cr]) ++ [gp]).map U64) 30 1, .blk g2 #[vI 0] 44] := I
     refine Jb Z I ((JG∘JQ) fun a Z I => ?_)
     rcases qgy b (2 * (gp - 1)) e2 with hv_e3 | ⟨gs, e3, hv_e3⟩
     ·
      refine Jb Z I ((JR∘Jp 2∘JsK 1∘Jp 1∘Jo (vI (2 * (gp - 1) : Nat)) (by exact ze om om)) fun a Z I => ?_)
      refine fo Z 4 rfl rfl ?_
      exact qa9 Z [vP g 0, vI (2 * (gp - 1) : Nat)] rfl (qjh W _ g e2 A A20 c c20 b ((((([] : List Nat) ++ [nx]) ++ [cp]) ++ [cr]) ++ [gp]) (.slice S22 ([qd, ⟨qa 0, 3, e1⟩, ⟨qa 1, e1, e2⟩].length) k22) _ (2 * (gp - 1)) om hc20 (I.pk [0, 2, 1, 3]) hin hbc hl hb hi_e2.2 hq_e2 hv_e3) fun w2 I => zg Z rfl I (i := 1) rfl (hp.trans (qgx hv_e3)) [] de rfl
     ·
      have hp := hp.trans hv_e3.goK
      have hi_e3 := hv_e3.in hi_e2.2
      have hq_e3 := q_leK (xs := gs) hq_e2 hi_e3.1 hi_e3.2.1
      refine Jb Z I ((JR∘Jp 2∘JsK 1∘Jp 1∘Jo (vI (2 * (gp - 1) : Nat)) (by exact ze om om)∘JL (h:=by exact fun I => qjg W _ g e2 A A20 c c20 b ((((([] : List Nat) ++ [nx]) ++ [cp]) ++ [cr]) ++ [gp]) (.slice S22 ([qd, ⟨qa 0, 3, e1⟩, ⟨qa 1, e1, e2⟩].length) k22) _ (2 * (gp - 1)) om hc20 (I.pk [0, 2, 1, 3]) hin hbc hl hb hi_e2.2 hq_e2 hv_e3)) ?_)
      rintro I _ w27 ⟨rfl, A27, c27, hc27, HM2⟩
      refine ⟨_, rfl, _, HM2, ?_⟩
      refine (Jt5∘Jr∘Jp 1∘JL (h:=by exact fun I => qga (l2 := [qd, ⟨qa 0, 3, e1⟩, ⟨qa 1, e1, e2⟩, ⟨qa 2, e2, e3⟩]) W _ g e3 _ _ S22 k22 ([qd, ⟨qa 0, 3, e1⟩, ⟨qa 1, e1, e2⟩]) _ _ (I.pk [0, 2, 1, 3]) (Nat.le_of_ble_eq_true rfl) rfl)) ?_
      rintro I _ w29 ⟨rfl, S29, k29, hk29, HM2⟩
      refine ⟨_, rfl, _, HM2, ?_⟩
      refine (Jt2∘Jq) fun a Z I => ?_
      replace I : Mem W _ [.blk g #[.slice A b.length c, vI e3, .slice A27 ((((((([] : List Nat) ++ [nx]) ++ [cp]) ++ [cr]) ++ [gp]) ++ gs).length) c27, .slice S29 ([qd, ⟨qa 0, 3, e1⟩, ⟨qa 1, e1, e2⟩, ⟨qa 2, e2, e3⟩].length) k29] 130, .row (.slice S29 ([qd, ⟨qa 0, 3, e1⟩, ⟨qa 1, e1, e2⟩, ⟨qa 2, e2, e3⟩].length) k29) ([qd, ⟨qa 0, 3, e1⟩, ⟨qa 1, e1, e2⟩, ⟨qa 2, e2, e3⟩].length) ([qd, ⟨qa 0, 3, e1⟩, ⟨qa 1, e1, e2⟩, ⟨qa 2, e2, e3⟩].flatMap secL) 69 3, .row (.slice A27 ((((((([] : List Nat) ++ [nx]) ++ [cp]) ++ [cr]) ++ [gp]) ++ gs).length) c27) ((((((([] : List Nat) ++ [nx]) ++ [cp]) ++ [cr]) ++ [gp]) ++ gs).length) ((((((([] : List Nat) ++ [nx]) ++ [cp]) ++ [cr]) ++ [gp]) ++ gs).map U64) 30 1, .blk g2 #[vI 0] 44] := I
      refine Jb Z I ((JG∘JQ) fun a Z I => ?_)
      rcases qgy b cp e3 with hv_e4 | ⟨cl, e4, hv_e4⟩
      ·
       refine Jb Z I ((JR∘Jp 2) fun a Z I => ?_)
       refine fo Z 2 rfl rfl ?_
       exact qa9 Z [vP g 0, vI cp] rfl (qjh W _ g e3 A A27 c c27 b (((((([] : List Nat) ++ [nx]) ++ [cp]) ++ [cr]) ++ [gp]) ++ gs) (.slice S29 ([qd, ⟨qa 0, 3, e1⟩, ⟨qa 1, e1, e2⟩, ⟨qa 2, e2, e3⟩].length) k29) _ cp om hc27 (I.pk [0, 2, 1, 3]) hin hbc hl hb hi_e3.2.2 hq_e3 hv_e4) fun w2 I => zg Z rfl I (i := 1) rfl (hp.trans (qgx hv_e4)) [] de rfl
      ·
       have hp := hp.trans hv_e4.goK
       have hi_e4 := hv_e4.in hi_e3.2.2
       have hq_e4 := q_leK (xs := cl) hq_e3 hi_e4.1 hi_e4.2.1
       refine Jb Z I ((JR∘Jp 2∘JL (h:=by exact fun I => qjg W _ g e3 A A27 c c27 b (((((([] : List Nat) ++ [nx]) ++ [cp]) ++ [cr]) ++ [gp]) ++ gs) (.slice S29 ([qd, ⟨qa 0, 3, e1⟩, ⟨qa 1, e1, e2⟩, ⟨qa 2, e2, e3⟩].length) k29) _ cp om hc27 (I.pk [0, 2, 1, 3]) hin hbc hl hb hi_e3.2.2 hq_e3 hv_e4)) ?_)
       rintro I _ w32 ⟨rfl, A32, c32, hc32, HM2⟩
       refine ⟨_, rfl, _, HM2, ?_⟩
       refine (Jt3∘Jr∘Jp 1∘JL (h:=by exact fun I => qga (l2 := [qd, ⟨qa 0, 3, e1⟩, ⟨qa 1, e1, e2⟩, ⟨qa 2, e2, e3⟩, ⟨qa 3, e3, e4⟩]) W _ g e4 _ _ S29 k29 ([qd, ⟨qa 0, 3, e1⟩, ⟨qa 1, e1, e2⟩, ⟨qa 2, e2, e3⟩]) _ _ (I.pk [0, 2, 1, 3]) (Nat.le_of_ble_eq_true rfl) rfl)) ?_
       rintro I _ w34 ⟨rfl, S34, k34, hk34, HM2⟩
       refine ⟨_, rfl, _, HM2, ?_⟩
       refine (Jt2∘Jq) fun a Z I => ?_
       replace I : Mem W _ [.blk g #[.slice A b.length c, vI e4, .slice A32 (((((((([] : List Nat) ++ [nx]) ++ [cp]) ++ [cr]) ++ [gp]) ++ gs) ++ cl).length) c32, .slice S34 ([qd, ⟨qa 0, 3, e1⟩, ⟨qa 1, e1, e2⟩, ⟨qa 2, e2, e3⟩, ⟨qa 3, e3, e4⟩].length) k34] 130, .row (.slice S34 ([qd, ⟨qa 0, 3, e1⟩, ⟨qa 1, e1, e2⟩, ⟨qa 2, e2, e3⟩, ⟨qa 3, e3, e4⟩].length) k34) ([qd, ⟨qa 0, 3, e1⟩, ⟨qa 1, e1, e2⟩, ⟨qa 2, e2, e3⟩, ⟨qa 3, e3, e4⟩].length) ([qd, ⟨qa 0, 3, e1⟩, ⟨qa 1, e1, e2⟩, ⟨qa 2, e2, e3⟩, ⟨qa 3, e3, e4⟩].flatMap secL) 69 3, .row (.slice A32 (((((((([] : List Nat) ++ [nx]) ++ [cp]) ++ [cr]) ++ [gp]) ++ gs) ++ cl).length) c32) (((((((([] : List Nat) ++ [nx]) ++ [cp]) ++ [cr]) ++ [gp]) ++ gs) ++ cl).length) (((((((([] : List Nat) ++ [nx]) ++ [cp]) ++ [cr]) ++ [gp]) ++ gs) ++ cl).map U64) 30 1, .blk g2 #[vI 0] 44] := I
       refine Jb Z I ((JG∘JQ) fun a Z I => ?_)
       rcases qgy b cp e4 with hv_e5 | ⟨cu, e5, hv_e5⟩
       ·
        refine Jb Z I ((JR∘Jp 2) fun a Z I => ?_)
        refine fo Z 2 rfl rfl ?_
        exact qa9 Z [vP g 0, vI cp] rfl (qjh W _ g e4 A A32 c c32 b ((((((([] : List Nat) ++ [nx]) ++ [cp]) ++ [cr]) ++ [gp]) ++ gs) ++ cl) (.slice S34 ([qd, ⟨qa 0, 3, e1⟩, ⟨qa 1, e1, e2⟩, ⟨qa 2, e2, e3⟩, ⟨qa 3, e3, e4⟩].length) k34) _ cp om hc32 (I.pk [0, 2, 1, 3]) hin hbc hl hb hi_e4.2.2 hq_e4 hv_e5) fun w2 I => zg Z rfl I (i := 1) rfl (hp.trans (qgx hv_e5)) [] de rfl
       ·
        have hp := hp.trans hv_e5.goK
        have hi_e5 := hv_e5.in hi_e4.2.2
        have hq_e5 := q_leK (xs := cu) hq_e4 hi_e5.1 hi_e5.2.1
        refine Jb Z I ((JR∘Jp 2∘JL (h:=by exact fun I => qjg W _ g e4 A A32 c c32 b ((((((([] : List Nat) ++ [nx]) ++ [cp]) ++ [cr]) ++ [gp]) ++ gs) ++ cl) (.slice S34 ([qd, ⟨qa 0, 3, e1⟩, ⟨qa 1, e1, e2⟩, ⟨qa 2, e2, e3⟩, ⟨qa 3, e3, e4⟩].length) k34) _ cp om hc32 (I.pk [0, 2, 1, 3]) hin hbc hl hb hi_e4.2.2 hq_e4 hv_e5)) ?_)
        rintro I _ w37 ⟨rfl, A37, c37, hc37, HM2⟩
        refine ⟨_, rfl, _, HM2, ?_⟩
        refine (Jt3∘Jr∘Jp 1∘JL (h:=by exact fun I => qga (l2 := [qd, ⟨qa 0, 3, e1⟩, ⟨qa 1, e1, e2⟩, ⟨qa 2, e2, e3⟩, ⟨qa 3, e3, e4⟩, ⟨qa 4, e4, e5⟩]) W _ g e5 _ _ S34 k34 ([qd, ⟨qa 0, 3, e1⟩, ⟨qa 1, e1, e2⟩, ⟨qa 2, e2, e3⟩, ⟨qa 3, e3, e4⟩]) _ _ (I.pk [0, 2, 1, 3]) (Nat.le_of_ble_eq_true rfl) rfl)) ?_
        rintro I _ w39 ⟨rfl, S39, k39, hk39, HM2⟩
        refine ⟨_, rfl, _, HM2, ?_⟩
        refine (Jt2∘Jq) fun a Z I => ?_
        replace I : Mem W _ [.blk g #[.slice A b.length c, vI e5, .slice A37 ((((((((([] : List Nat) ++ [nx]) ++ [cp]) ++ [cr]) ++ [gp]) ++ gs) ++ cl) ++ cu).length) c37, .slice S39 ([qd, ⟨qa 0, 3, e1⟩, ⟨qa 1, e1, e2⟩, ⟨qa 2, e2, e3⟩, ⟨qa 3, e3, e4⟩, ⟨qa 4, e4, e5⟩].length) k39] 130, .row (.slice S39 ([qd, ⟨qa 0, 3, e1⟩, ⟨qa 1, e1, e2⟩, ⟨qa 2, e2, e3⟩, ⟨qa 3, e3, e4⟩, ⟨qa 4, e4, e5⟩].length) k39) ([qd, ⟨qa 0, 3, e1⟩, ⟨qa 1, e1, e2⟩, ⟨qa 2, e2, e3⟩, ⟨qa 3, e3, e4⟩, ⟨qa 4, e4, e5⟩].length) ([qd, ⟨qa 0, 3, e1⟩, ⟨qa 1, e1, e2⟩, ⟨qa 2, e2, e3⟩, ⟨qa 3, e3, e4⟩, ⟨qa 4, e4, e5⟩].flatMap secL) 69 3, .row (.slice A37 ((((((((([] : List Nat) ++ [nx]) ++ [cp]) ++ [cr]) ++ [gp]) ++ gs) ++ cl) ++ cu).length) c37) ((((((((([] : List Nat) ++ [nx]) ++ [cp]) ++ [cr]) ++ [gp]) ++ gs) ++ cl) ++ cu).length) ((((((((([] : List Nat) ++ [nx]) ++ [cp]) ++ [cr]) ++ [gp]) ++ gs) ++ cl) ++ cu).map U64) 30 1, .blk g2 #[vI 0] 44] := I
        refine Jb Z I ((JG∘JQ) fun a Z I => ?_)
        rcases qsl b e5 0 65535 with hv_a3 | ⟨tk, a3, hv_a3, hr_a3⟩ | ⟨tk, a3, hv_a3, hr_a3⟩
        ·
         refine Jb Z I ((JR∘Jp 2) fun a Z I => ?_)
         refine fo Z 2 rfl rfl ?_
         exact qa9 Z [vP g 0, vQ 0, vQ 65535] rfl (qmr W _ g e5 A A37 c c37 b (((((((([] : List Nat) ++ [nx]) ++ [cp]) ++ [cr]) ++ [gp]) ++ gs) ++ cl) ++ cu) (.slice S39 ([qd, ⟨qa 0, 3, e1⟩, ⟨qa 1, e1, e2⟩, ⟨qa 2, e2, e3⟩, ⟨qa 3, e3, e4⟩, ⟨qa 4, e4, e5⟩].length) k39) _ 0 65535 de (I.pk [0, 2, 1, 3]) hin hbc hl hb hi_e5.2.2 hq_e5 hv_a3) fun w2 I => zg Z rfl I (i := 1) rfl (hp.trans (qmg hv_a3)) [] de rfl
        ·
         refine Jb Z I ((JR∘Jp 2) fun a Z I => ?_)
         refine fo Z 2 rfl rfl ?_
         exact qa9 Z [vP g 0, vQ 0, vQ 65535] rfl (qjf W _ g e5 A A37 c c37 b (((((((([] : List Nat) ++ [nx]) ++ [cp]) ++ [cr]) ++ [gp]) ++ gs) ++ cl) ++ cu) (.slice S39 ([qd, ⟨qa 0, 3, e1⟩, ⟨qa 1, e1, e2⟩, ⟨qa 2, e2, e3⟩, ⟨qa 3, e3, e4⟩, ⟨qa 4, e4, e5⟩].length) k39) _ 0 65535 de (I.pk [0, 2, 1, 3]) hin hbc hl hb hi_e5.2.2 hq_e5 hv_a3 hr_a3) fun w2 I => zg Z rfl I (i := 1) rfl (hp.trans (hv_a3.bad hr_a3)) [] de rfl
        ·
         have hp := hp.trans (hv_a3.goC hr_a3)
         have hi_a3 := hv_a3.in hi_e5.2.2
         have hq_a3 := q_le1 (x := tk) hq_e5 hi_a3.1
         rcases qgy b (8 * tk) a3 with hv_e6 | ⟨ts, e6, hv_e6⟩
         ·
          refine Jb Z I ((JR∘Jp 2∘JL (h:=by exact fun I => qhu W _ g e5 A A37 c c37 b (((((((([] : List Nat) ++ [nx]) ++ [cp]) ++ [cr]) ++ [gp]) ++ gs) ++ cl) ++ cu) (.slice S39 ([qd, ⟨qa 0, 3, e1⟩, ⟨qa 1, e1, e2⟩, ⟨qa 2, e2, e3⟩, ⟨qa 3, e3, e4⟩, ⟨qa 4, e4, e5⟩].length) k39) _ 0 65535 de (I.pk [0, 2, 1, 3]) hin hbc hl hb hi_e5.2.2 hq_e5 hv_a3 hr_a3)) ?_)
          rintro I _ w42 ⟨rfl, A42, c42, hc42, HM2⟩
          refine ⟨_, rfl, _, HM2, ?_⟩
          refine (Jp 1∘Jo (vI (8 * tk : Nat)) (by exact ze om om)) fun a Z I => ?_
          refine fo Z 4 rfl rfl ?_
          exact qa9 Z [vP g 0, vI (8 * tk : Nat)] rfl (qjh W _ g a3 A A42 c c42 b ((((((((([] : List Nat) ++ [nx]) ++ [cp]) ++ [cr]) ++ [gp]) ++ gs) ++ cl) ++ cu) ++ [tk]) (.slice S39 ([qd, ⟨qa 0, 3, e1⟩, ⟨qa 1, e1, e2⟩, ⟨qa 2, e2, e3⟩, ⟨qa 3, e3, e4⟩, ⟨qa 4, e4, e5⟩].length) k39) _ (8 * tk) om hc42 (I.pk [0, 1, 2, 3]) hin hbc hl hb hi_a3.2 hq_a3 hv_e6) fun w2 I => zg Z rfl I (i := 1) rfl (hp.trans (qgx hv_e6)) [] de rfl
         ·
          have hp := hp.trans hv_e6.goK
          have hi_e6 := hv_e6.in hi_a3.2
          have hq_e6 := q_leK (xs := ts) hq_a3 hi_e6.1 hi_e6.2.1
          refine Jb Z I ((JR∘Jp 2∘JL (h:=by exact fun I => qhu W _ g e5 A A37 c c37 b (((((((([] : List Nat) ++ [nx]) ++ [cp]) ++ [cr]) ++ [gp]) ++ gs) ++ cl) ++ cu) (.slice S39 ([qd, ⟨qa 0, 3, e1⟩, ⟨qa 1, e1, e2⟩, ⟨qa 2, e2, e3⟩, ⟨qa 3, e3, e4⟩, ⟨qa 4, e4, e5⟩].length) k39) _ 0 65535 de (I.pk [0, 2, 1, 3]) hin hbc hl hb hi_e5.2.2 hq_e5 hv_a3 hr_a3)) ?_)
          rintro I _ w42 ⟨rfl, A42, c42, hc42, HM2⟩
          refine ⟨_, rfl, _, HM2, ?_⟩
          refine (Jp 1∘Jo (vI (8 * tk : Nat)) (by exact ze om om)∘JL (h:=by exact fun I => qjg W _ g a3 A A42 c c42 b ((((((((([] : List Nat) ++ [nx]) ++ [cp]) ++ [cr]) ++ [gp]) ++ gs) ++ cl) ++ cu) ++ [tk]) (.slice S39 ([qd, ⟨qa 0, 3, e1⟩, ⟨qa 1, e1, e2⟩, ⟨qa 2, e2, e3⟩, ⟨qa 3, e3, e4⟩, ⟨qa 4, e4, e5⟩].length) k39) _ (8 * tk) om hc42 (I.pk [0, 1, 2, 3]) hin hbc hl hb hi_a3.2 hq_a3 hv_e6)) ?_
          rintro I _ w44 ⟨rfl, A44, c44, hc44, HM2⟩
          refine ⟨_, rfl, _, HM2, ?_⟩
          refine (Jt5∘Jr∘Jp 1∘JL (h:=by exact fun I => qga (l2 := [qd, ⟨qa 0, 3, e1⟩, ⟨qa 1, e1, e2⟩, ⟨qa 2, e2, e3⟩, ⟨qa 3, e3, e4⟩, ⟨qa 4, e4, e5⟩, ⟨qa 5, e5, e6⟩]) W _ g e6 _ _ S39 k39 ([qd, ⟨qa 0, 3, e1⟩, ⟨qa 1, e1, e2⟩, ⟨qa 2, e2, e3⟩, ⟨qa 3, e3, e4⟩, ⟨qa 4, e4, e5⟩]) _ _ (I.pk [0, 2, 1, 3]) (Nat.le_of_ble_eq_true rfl) rfl)) ?_
          rintro I _ w46 ⟨rfl, S46, k46, hk46, HM2⟩
          refine ⟨_, rfl, _, HM2, ?_⟩
          refine (Jt2∘Jq) fun a Z I => ?_
          replace I : Mem W _ [.blk g #[.slice A b.length c, vI e6, .slice A44 ((((((((((([] : List Nat) ++ [nx]) ++ [cp]) ++ [cr]) ++ [gp]) ++ gs) ++ cl) ++ cu) ++ [tk]) ++ ts).length) c44, .slice S46 ([qd, ⟨qa 0, 3, e1⟩, ⟨qa 1, e1, e2⟩, ⟨qa 2, e2, e3⟩, ⟨qa 3, e3, e4⟩, ⟨qa 4, e4, e5⟩, ⟨qa 5, e5, e6⟩].length) k46] 130, .row (.slice S46 ([qd, ⟨qa 0, 3, e1⟩, ⟨qa 1, e1, e2⟩, ⟨qa 2, e2, e3⟩, ⟨qa 3, e3, e4⟩, ⟨qa 4, e4, e5⟩, ⟨qa 5, e5, e6⟩].length) k46) ([qd, ⟨qa 0, 3, e1⟩, ⟨qa 1, e1, e2⟩, ⟨qa 2, e2, e3⟩, ⟨qa 3, e3, e4⟩, ⟨qa 4, e4, e5⟩, ⟨qa 5, e5, e6⟩].length) ([qd, ⟨qa 0, 3, e1⟩, ⟨qa 1, e1, e2⟩, ⟨qa 2, e2, e3⟩, ⟨qa 3, e3, e4⟩, ⟨qa 4, e4, e5⟩, ⟨qa 5, e5, e6⟩].flatMap secL) 69 3, .row (.slice A44 ((((((((((([] : List Nat) ++ [nx]) ++ [cp]) ++ [cr]) ++ [gp]) ++ gs) ++ cl) ++ cu) ++ [tk]) ++ ts).length) c44) ((((((((((([] : List Nat) ++ [nx]) ++ [cp]) ++ [cr]) ++ [gp]) ++ gs) ++ cl) ++ cu) ++ [tk]) ++ ts).length) ((((((((((([] : List Nat) ++ [nx]) ++ [cp]) ++ [cr]) ++ [gp]) ++ gs) ++ cl) ++ cu) ++ [tk]) ++ ts).map U64) 30 1, .blk g2 #[vI 0] 44] := I
          refine Jb Z I ((JG∘JQ) fun a Z I => ?_)
          rcases qgy b (cp + 3 * cp * (gp - 1)) e6 with hv_e7 | ⟨sp, e7, hv_e7⟩
          ·
           refine Jb Z I ((JR∘Jp 4∘Jo (vI (3 * cp : Nat)) (by exact ze om om)∘Jp 1∘JsK 1∘Jp 1∘Jo (vI (3 * cp * (gp - 1) : Nat)) (by exact qop (m := 3 * cp) (n := gp - 1) (by have := h3; omega))∘Ja) fun a Z I => ?_)
           refine fo Z 8 rfl rfl ?_
           exact qa9 Z [vP g 0, vI (cp + (3 * cp * (gp - 1)) : Nat)] rfl (qjh W _ g e6 A A44 c c44 b (((((((((([] : List Nat) ++ [nx]) ++ [cp]) ++ [cr]) ++ [gp]) ++ gs) ++ cl) ++ cu) ++ [tk]) ++ ts) (.slice S46 ([qd, ⟨qa 0, 3, e1⟩, ⟨qa 1, e1, e2⟩, ⟨qa 2, e2, e3⟩, ⟨qa 3, e3, e4⟩, ⟨qa 4, e4, e5⟩, ⟨qa 5, e5, e6⟩].length) k46) _ (cp + (3 * cp * (gp - 1))) om hc44 (I.pk [0, 2, 1, 3]) hin hbc hl hb hi_e6.2.2 hq_e6 hv_e7) fun w2 I => zg Z rfl I (i := 1) rfl (hp.trans (qgx hv_e7)) [] de rfl
          ·
           have hp := hp.trans hv_e7.goK
           have hi_e7 := hv_e7.in hi_e6.2.2
           have hq_e7 := q_leK (xs := sp) hq_e6 hi_e7.1 hi_e7.2.1
           refine Jb Z I ((JR∘Jp 4∘Jo (vI (3 * cp : Nat)) (by exact ze om om)∘Jp 1∘JsK 1∘Jp 1∘Jo (vI (3 * cp * (gp - 1) : Nat)) (by exact qop (m := 3 * cp) (n := gp - 1) (by have := h3; omega))∘Ja∘JL (h:=by exact fun I => qjg W _ g e6 A A44 c c44 b (((((((((([] : List Nat) ++ [nx]) ++ [cp]) ++ [cr]) ++ [gp]) ++ gs) ++ cl) ++ cu) ++ [tk]) ++ ts) (.slice S46 ([qd, ⟨qa 0, 3, e1⟩, ⟨qa 1, e1, e2⟩, ⟨qa 2, e2, e3⟩, ⟨qa 3, e3, e4⟩, ⟨qa 4, e4, e5⟩, ⟨qa 5, e5, e6⟩].length) k46) _ (cp + (3 * cp * (gp - 1))) om hc44 (I.pk [0, 2, 1, 3]) hin hbc hl hb hi_e6.2.2 hq_e6 hv_e7)) ?_)
           rintro I _ w55 ⟨rfl, A55, c55, hc55, HM2⟩
           refine ⟨_, rfl, _, HM2, ?_⟩
           refine (Jt6∘Jr∘Jp 1∘JL (h:=by exact fun I => qga (l2 := [qd, ⟨qa 0, 3, e1⟩, ⟨qa 1, e1, e2⟩, ⟨qa 2, e2, e3⟩, ⟨qa 3, e3, e4⟩, ⟨qa 4, e4, e5⟩, ⟨qa 5, e5, e6⟩, ⟨qa 6, e6, e7⟩]) W _ g e7 _ _ S46 k46 ([qd, ⟨qa 0, 3, e1⟩, ⟨qa 1, e1, e2⟩, ⟨qa 2, e2, e3⟩, ⟨qa 3, e3, e4⟩, ⟨qa 4, e4, e5⟩, ⟨qa 5, e5, e6⟩]) _ _ (I.pk [0, 2, 1, 3]) (Nat.le_of_ble_eq_true rfl) rfl)) ?_
           rintro I _ w57 ⟨rfl, S57, k57, hk57, HM2⟩
           refine ⟨_, rfl, _, HM2, ?_⟩
           refine (Jt5∘Jq) fun a Z I => ?_
           replace I : Mem W _ [.blk g #[.slice A b.length c, vI e7, .slice A55 (((((((((((([] : List Nat) ++ [nx]) ++ [cp]) ++ [cr]) ++ [gp]) ++ gs) ++ cl) ++ cu) ++ [tk]) ++ ts) ++ sp).length) c55, .slice S57 ([qd, ⟨qa 0, 3, e1⟩, ⟨qa 1, e1, e2⟩, ⟨qa 2, e2, e3⟩, ⟨qa 3, e3, e4⟩, ⟨qa 4, e4, e5⟩, ⟨qa 5, e5, e6⟩, ⟨qa 6, e6, e7⟩].length) k57] 130, .row (.slice S57 ([qd, ⟨qa 0, 3, e1⟩, ⟨qa 1, e1, e2⟩, ⟨qa 2, e2, e3⟩, ⟨qa 3, e3, e4⟩, ⟨qa 4, e4, e5⟩, ⟨qa 5, e5, e6⟩, ⟨qa 6, e6, e7⟩].length) k57) ([qd, ⟨qa 0, 3, e1⟩, ⟨qa 1, e1, e2⟩, ⟨qa 2, e2, e3⟩, ⟨qa 3, e3, e4⟩, ⟨qa 4, e4, e5⟩, ⟨qa 5, e5, e6⟩, ⟨qa 6, e6, e7⟩].length) ([qd, ⟨qa 0, 3, e1⟩, ⟨qa 1, e1, e2⟩, ⟨qa 2, e2, e3⟩, ⟨qa 3, e3, e4⟩, ⟨qa 4, e4, e5⟩, ⟨qa 5, e5, e6⟩, ⟨qa 6, e6, e7⟩].flatMap secL) 69 3, .row (.slice A55 (((((((((((([] : List Nat) ++ [nx]) ++ [cp]) ++ [cr]) ++ [gp]) ++ gs) ++ cl) ++ cu) ++ [tk]) ++ ts) ++ sp).length) c55) (((((((((((([] : List Nat) ++ [nx]) ++ [cp]) ++ [cr]) ++ [gp]) ++ gs) ++ cl) ++ cu) ++ [tk]) ++ ts) ++ sp).length) (((((((((((([] : List Nat) ++ [nx]) ++ [cp]) ++ [cr]) ++ [gp]) ++ gs) ++ cl) ++ cu) ++ [tk]) ++ ts) ++ sp).map U64) 30 1, .blk g2 #[vI 0] 44] := I
           refine Jb Z I ((JG∘JQ) fun a Z I => ?_)
           refine wp_seq ?_
           refine q60 ?_
           refine qm6 I [.blk g #[.slice A b.length c, vI e7, .slice A55 (((((((((((([] : List Nat) ++ [nx]) ++ [cp]) ++ [cr]) ++ [gp]) ++ gs) ++ cl) ++ cu) ++ [tk]) ++ ts) ++ sp).length) c55, .slice S57 ([qd, ⟨qa 0, 3, e1⟩, ⟨qa 1, e1, e2⟩, ⟨qa 2, e2, e3⟩, ⟨qa 3, e3, e4⟩, ⟨qa 4, e4, e5⟩, ⟨qa 5, e5, e6⟩, ⟨qa 6, e6, e7⟩].length) k57] 130, .row (.slice S57 ([qd, ⟨qa 0, 3, e1⟩, ⟨qa 1, e1, e2⟩, ⟨qa 2, e2, e3⟩, ⟨qa 3, e3, e4⟩, ⟨qa 4, e4, e5⟩, ⟨qa 5, e5, e6⟩, ⟨qa 6, e6, e7⟩].length) k57) ([qd, ⟨qa 0, 3, e1⟩, ⟨qa 1, e1, e2⟩, ⟨qa 2, e2, e3⟩, ⟨qa 3, e3, e4⟩, ⟨qa 4, e4, e5⟩, ⟨qa 5, e5, e6⟩, ⟨qa 6, e6, e7⟩].length) ([qd, ⟨qa 0, 3, e1⟩, ⟨qa 1, e1, e2⟩, ⟨qa 2, e2, e3⟩, ⟨qa 3, e3, e4⟩, ⟨qa 4, e4, e5⟩, ⟨qa 5, e5, e6⟩, ⟨qa 6, e6, e7⟩].flatMap secL) 69 3, .row (.slice A55 (((((((((((([] : List Nat) ++ [nx]) ++ [cp]) ++ [cr]) ++ [gp]) ++ gs) ++ cl) ++ cu) ++ [tk]) ++ ts) ++ sp).length) c55) (((((((((((([] : List Nat) ++ [nx]) ++ [cp]) ++ [cr]) ++ [gp]) ++ gs) ++ cl) ++ cu) ++ [tk]) ++ ts) ++ sp).length) (((((((((((([] : List Nat) ++ [nx]) ++ [cp]) ++ [cr]) ++ [gp]) ++ gs) ++ cl) ++ cu) ++ [tk]) ++ ts) ++ sp).map U64) 30 1, .blk g2 #[vI 0] 44] [0, 1, 2, 3] [] fun I HS => ?_
           refine ap Z (fun _ => HS) [0, 4] (bf 10 [0, 4]) [(62, vP g 0), (58, vP g 0)] fun a Z => ?_
           refine s_am Z HS 1 fun a Z => ?_
           refine ap Z (fun _ => HS) [2] (bf 10 [0, 1, 2, 4]) [(60, vP g 1)] fun a Z => ?_
           refine s_ac Z HS 3 0 fun a Z => ?_
           refine s_am Z HS 5 fun a Z => ?_
           refine ap Z (fun _ => HS) [6] (bt 10 [7, 8, 9]) [(64, vP g 0)] fun a Z => ?_
           refine s_ac Z HS 7 0 fun a Z => ?_
           refine s_al Z HS 8 fun a Z => ?_
           refine ap Z (fun _ => HS) [9] (bt 10 []) [(67, .bool ((e7 : Int) != (b.length : Int)))] fun a Z => ?_
           refine qc kr ?_
           refine Jb Z I (Ju (fun hb67 => ?_) fun hb67 => ?_)
           ·
            intro a Z I
            have hd67 := bne_iff_ne.1 hb67
            have hne : e7 ≠ b.length := by omega
            refine Jb Z I ((JT∘JR) fun a Z I => ?_)
            refine fo Z 0 rfl rfl ?_
            exact qa9 Z [vI 346] rfl (qhr 346 _ I) fun w2 I => zg Z rfl I (i := 3) rfl (hp.trans (if_pos hne)) [] de rfl
           intro a Z I
           have hd67 := bne_eq_false_iff_eq.1 hb67
           revert I; revert a; repeat (first | clear Z | clear I)
           intro a Z I
           obtain rfl : e7 = b.length := by omega
           have hp := hp.trans (if_neg (fun h => h rfl))
           obtain ⟨qn, hqn⟩ : ∃ qn, ((((((((((([] : List Nat) ++ [nx]) ++ [cp]) ++ [cr]) ++ [gp]) ++ gs) ++ cl) ++ cu) ++ [tk]) ++ ts) ++ sp) = qn := ⟨_, rfl⟩
           rw [hqn] at I hc55
           refine Jb Z I ((JF∘JS'∘JP∘Jp 1∘Jn∘Jg 1 O0∘JaK 4∘Jn∘Jf 1∘JW O0' O1') fun w22_7 => (Jt6∘Jr∘Jp 1∘JL (h:=by exact fun I => qga (l2 := [qd, ⟨qa 0, 3, e1⟩, ⟨qa 1, e1, e2⟩, ⟨qa 2, e2, e3⟩, ⟨qa 3, e3, e4⟩, ⟨qa 4, e4, e5⟩, ⟨qa 5, e5, e6⟩, ⟨qa 6, e6, b.length⟩, ⟨⟨#[115, 117, 109]⟩, b.length, b.length + 4⟩]) W _ g (b.length + 4 : Nat) _ _ S57 k57 ([qd, ⟨qa 0, 3, e1⟩, ⟨qa 1, e1, e2⟩, ⟨qa 2, e2, e3⟩, ⟨qa 3, e3, e4⟩, ⟨qa 4, e4, e5⟩, ⟨qa 5, e5, e6⟩, ⟨qa 6, e6, b.length⟩]) _ _ (I.pk [0, 1, 2, 3]) (Nat.le_of_ble_eq_true rfl) rfl)) ?_)
           rintro I _ w77 ⟨rfl, S77, k77, hk77, HM2⟩
           refine ⟨_, rfl, _, HM2, ?_⟩
           refine (Jt2∘Jq) fun a Z I => ?_
           replace I : Mem W _ [.blk g #[.slice A b.length c, vI (b.length + 4 : Nat), .slice A55 qn.length c55, .slice S77 ([qd, ⟨qa 0, 3, e1⟩, ⟨qa 1, e1, e2⟩, ⟨qa 2, e2, e3⟩, ⟨qa 3, e3, e4⟩, ⟨qa 4, e4, e5⟩, ⟨qa 5, e5, e6⟩, ⟨qa 6, e6, b.length⟩, ⟨⟨#[115, 117, 109]⟩, b.length, b.length + 4⟩].length) k77] 130, .row (.slice S77 ([qd, ⟨qa 0, 3, e1⟩, ⟨qa 1, e1, e2⟩, ⟨qa 2, e2, e3⟩, ⟨qa 3, e3, e4⟩, ⟨qa 4, e4, e5⟩, ⟨qa 5, e5, e6⟩, ⟨qa 6, e6, b.length⟩, ⟨⟨#[115, 117, 109]⟩, b.length, b.length + 4⟩].length) k77) ([qd, ⟨qa 0, 3, e1⟩, ⟨qa 1, e1, e2⟩, ⟨qa 2, e2, e3⟩, ⟨qa 3, e3, e4⟩, ⟨qa 4, e4, e5⟩, ⟨qa 5, e5, e6⟩, ⟨qa 6, e6, b.length⟩, ⟨⟨#[115, 117, 109]⟩, b.length, b.length + 4⟩].length) ([qd, ⟨qa 0, 3, e1⟩, ⟨qa 1, e1, e2⟩, ⟨qa 2, e2, e3⟩, ⟨qa 3, e3, e4⟩, ⟨qa 4, e4, e5⟩, ⟨qa 5, e5, e6⟩, ⟨qa 6, e6, b.length⟩, ⟨⟨#[115, 117, 109]⟩, b.length, b.length + 4⟩].flatMap secL) 69 3, .row (.slice A55 qn.length c55) qn.length (qn.map U64) 30 1, .blk g2 #[vI 0] 44] := I
           refine Jb Z I ((JG∘JP∘JW O3' O0') fun w24_0 => (Jd6∘Jj∘JZ) fun a Z I => ?_)
           exact q3z Z rfl I (i := 3) rfl fun w3 I => .inl ⟨(⟨nx, cp, cr, gp, gs, cl, cu, tk, ts, sp, e1, e2, e3, e4, e5, e6, b.length⟩ : Pr), A55, c55, S77, k77, hp, rfl, by subst hqn; rw [qs4]; exact hc55, hk77, by subst hqn; rw [qs4]; exact I.pk [0, 2, 1]⟩
theorem q7m (W w : World) (g : Nat) (A : Option Addr) (c : Nat) (b : List Nat) (HW : Mem W w [.blk g #[.slice A b.length c, vI 0, vN, vN] 130]) (hin : Rd W W.heap.size 1 A b.length (b.map B8)) (hbc : b.length ≤ c) (hl : ∀ z ∈ b, z < 256) (hb : b.length ≤ 16777216) (hb3 : 3 ≤ b.length) {p : Pr} (h : prs b = .ok p) : Calls Tryz.prog 91 #[vP g 0] w (fun r w' => r = .returned (vI 0) ∧ ∃ NA nc SA sc, p.nums.length ≤ nc ∧ p.secs.length ≤ sc ∧ Mem W w' [.blk g #[.slice A b.length c, vI ((b.length + 4 : Nat) : Int), .slice NA p.nums.length nc, .slice SA p.secs.length sc] 130, .row (.slice NA p.nums.length nc) p.nums.length (p.nums.map U64) 30 1, .row (.slice SA p.secs.length sc) p.secs.length (p.secs.flatMap secL) 69 3]) :=
 (qs5 W w g A c b HW hin hbc hl hb hb3).mono fun r w' h1 => by
  rcases h1 with ⟨p2, NA, nc, SA, sc, h2, h3, h4, h5, h6⟩ | ⟨k, h2, _⟩
  ·obtain rfl : p2 = p := by rw [h] at h2; injection h2 with h2; exact h2.symm
   exact ⟨h3, NA, nc, SA, sc, h4, h5, h6⟩
  ·rw [h] at h2; cases h2
theorem q7n (W w : World) (g : Nat) (A : Option Addr) (c : Nat) (b : List Nat) (HW : Mem W w [.blk g #[.slice A b.length c, vI 0, vN, vN] 130]) (hin : Rd W W.heap.size 1 A b.length (b.map B8)) (hbc : b.length ≤ c) (hl : ∀ z ∈ b, z < 256) (hb : b.length ≤ 16777216) (hb3 : 3 ≤ b.length) {k : Nat} (h : prs b = .error k) : Calls Tryz.prog 91 #[vP g 0] w (fun r w' => r = .returned (vI k) ∧ Mem W w' []) :=
 (qs5 W w g A c b HW hin hbc hl hb hb3).mono fun r w' h1 => by
  rcases h1 with ⟨p2, NA, nc, SA, sc, h2, _⟩ | ⟨k2, h2, h3, h4⟩
  ·rw [h] at h2; cases h2
  ·obtain rfl : k2 = k := by rw [h] at h2; injection h2 with h2; exact h2.symm
   exact ⟨h3, h4⟩
def OpnIs (w : World) (l : List Nat) (r : Ending) (w' : World) : Prop := (∃ p, opnR l = .ok p ∧ ∃ g iv av NA nc SA sc, r = .returned (.tuple #[vP g 0, vI 0]) ∧ p.nums.length ≤ nc ∧ p.secs.length ≤ sc ∧ Mem w w' [.blk g #[iv, av, .slice NA p.nums.length nc, .slice SA p.secs.length sc] 130, .row (.slice NA p.nums.length nc) p.nums.length (p.nums.map U64) 30 1, .row (.slice SA p.secs.length sc) p.secs.length (p.secs.flatMap secL) 69 3]) ∨ (∃ k : Nat, opnR l = .error k ∧ Is w (.tuple #[.pointer none, vI k]) r w')
theorem qdq {w w' : World} {l : List Nat} {r : Ending} {k : Nat} (n : Int) (h : opnR l = .error k) (hk : n = k) (hr : r = .returned (.tuple #[.pointer none, vI n])) (hb : Below w.heap.size w w') : OpnIs w l r w' := .inr ⟨k, h, by rw [hr, hk], hb⟩
theorem qs6 (A : Option Addr) (c : Nat) (l : List Nat) (B : Nat) (w : World) (hL : LaidX B w) (hB : B ≤ w.heap.size) (hr : Rd w w.heap.size 1 A l.length (l.map B8)) (hc : l.length ≤ c) (hn : l.length ≤ 100000000) (hl : ∀ z ∈ l, z < 256) :
    Calls Tryz.prog 57 #[.slice A l.length c] w (OpnIs w l) := by
 refine (JN1 Tryz.func57 47) ?_
 refine (JP∘Jp 2∘Jj∘JQ∘JB∘JP∘Jp 1∘Jl∘Jp 2∘Jd3∘Jj) (Ji (fun hd6 => ?_) fun hd6 => ?_)
 ·
  exact (JT∘JP∘Jp 2∘Jj∘JZ∘Jz2) fun I => qdq _ (qzi om) rfl rfl I.below
 refine (JF∘JP∘Jp 1∘Jl∘Jp 2∘Jd3∘Jj) (Ji (fun hd10 => ?_) fun hd10 => ?_)
 ·
  exact (JT∘JP∘Jp 2∘Jj∘JZ∘Jz2) fun I => qdq _ (q3a om om) rfl rfl I.below
 refine (JF∘JP∘Jp 1∘JI (h:=by exact fun I => qvf A l.length c l B _ (hL.mem I hB) (I.le hB) (I.old hr) hc rfl om hl)) fun w16 hbw => (Jp 2∘Jd3∘Jj) (Ju (fun hb14 => ?_) fun hb14 => ?_)
 ·
  intro a Z I
  have hs16 : q7 l = false := by simpa using hb14
  exact Jb Z I ((JT∘JP∘Jp 2∘Jj∘JZ∘Jz2) fun I => qdq _ (qzj om om hs16) rfl rfl I.below)
 intro a Z I
 have hs16 : q7 l = true := by simpa using hb14
 refine Jb Z I ((JF∘JP∘Jp 1) ?_)
 repeat (first | clear Z | clear I)
 intro a Z I
 obtain ⟨gA, oA, rfl, _⟩ := hr.qu (Nat.lt_of_le_of_lt (Nat.zero_le _) (show 0 < l.length from by omega)) de
 refine Jb Z I ((Jy (v := vP gA oA) (h:=by exact Yl.indexAddr (ad := ⟨gA, oA, none⟩) (y := 0) (sz := 1) rfl rfl rfl om kr)∘Jy (h:=by exact Yl.o1 hr 0 0 (by first | omega | (simp; omega)) rfl rfl)∘Jp 2) (Jh (fun hd23 => ?_) fun hd23 => ?_))
 ·
  exact (Jp 6∘Jd6∘Jj∘JT∘JP∘Jp 2∘Jj∘JZ∘Jz2) fun I => qdq _ (qoq om om hs16 om) rfl rfl I.below
 refine (Jp 1∘Jy (v := vP gA (oA + 1)) (h:=by exact Yl.indexAddr (ad := ⟨gA, oA, none⟩) (y := 1) (sz := 1) rfl rfl rfl om kr)∘Jy (h:=by exact Yl.o1 hr 1 0 (by first | omega | (simp; omega)) rfl rfl)∘Jp 3∘Jd6∘Jj) (Jh (fun hd18 => ?_) fun hd18 => ?_)
 ·
  exact (JT∘JP∘Jp 2∘Jj∘JZ∘Jz2) fun I => qdq _ (qoq om om hs16 om) rfl rfl I.below
 refine (JF∘JP∘Jp 1∘Jy (v := vP gA (oA + 2)) (h:=by exact Yl.indexAddr (ad := ⟨gA, oA, none⟩) (y := 2) (sz := 1) rfl rfl rfl om kr)∘Jy (h:=by exact Yl.o1 hr 2 0 (by first | omega | (simp; omega)) rfl rfl)∘Jp 2∘Jd4∘Jj) (Jh (fun hd29 => ?_) fun hd29 => ?_)
 ·
  exact (JT∘JP∘Jp 2∘Jj∘JZ∘Jz2) fun I => qdq _ (qql om om hs16 om om) rfl rfl I.below
 refine (JF∘JS'∘JQ) fun a Z I => ?_
 obtain ⟨b, hbd⟩ : ∃ b, l.take (l.length - 4) = b := ⟨_, rfl⟩
 have hbl : b.length = l.length - 4 := by rw [← hbd, List.length_take]; omega
 have hrb : Rd w w.heap.size 1 (some ⟨gA, oA, none⟩) b.length (b.map B8) := by rw [hbl, ← hbd]; exact hr.toB8 om
 have hlb : ∀ z ∈ b, z < 256 := fun z hz => hl z (List.mem_of_mem_take (hbd ▸ hz))
 have hop := q64 om om hs16 om om
 rw [hbd] at hop
 skip
 ·
  refine Jb Z I ((JR∘Jp 2∘Jl∘JsK 4∘Jy (v := .slice (some ⟨gA, oA, none⟩) (l.length - 4) c) (h:=by exact Yl.qan ei_u8 (j := l.length - 4) rfl rfl rfl om)∘Jo (.slice (some ⟨gA, oA, none⟩) b.length c) (by rw [hbl])∘Jy (v := .agg #[.slice (some ⟨gA, oA, none⟩) b.length c, vI 0, vN, vN]) (h:=by exact Yl.build (vs := [(0, .slice (some ⟨gA, oA, none⟩) b.length c)]) rfl kr kr)∘JE) fun w40 g40 => (Jp 1∘Jd6∘Jj∘JQ∘JQ) fun a Z I => ?_)
  rcases hpr : prs b with k | p
  ·
   have hke := qzh hpr
   refine Jb Z I ((JR∘Jp 1∘JO (h:=by exact fun I => q7n w _ g40 (some ⟨gA, oA, none⟩) c b (I.pk [0]) hrb om hlb om om hpr)) fun w42 => (Jp 1∘Jd2∘Jr∘Jp 2∘Jd1∘Jj) (Ju (fun hb44 => ?_) fun hb44 => ?_))
   ·
    intro a Z I
    have hd44 := bne_iff_ne.1 hb44
    exact Jb Z I ((JT∘JP∘Jp 3∘Jj∘JZ∘Jz2) fun I => qdq _ (hop.trans hpr) rfl rfl I.below)
   intro a Z I
   have hd44 := bne_eq_false_iff_eq.1 hb44
   exfalso; omega
  ·
   refine Jb Z I ((JR∘Jp 1∘JL (h:=by exact fun I => q7m w _ g40 (some ⟨gA, oA, none⟩) c b (I.pk [0]) hrb om hlb om om hpr)) ?_)
   rintro I _ w42 ⟨rfl, NA, nc, SA, sc, hnc, hsc, HM2⟩
   refine ⟨_, rfl, _, HM2, ?_⟩
   exact (Jp 1∘Jd2∘Jr∘Jv 2 [(44, .bool false)]∘Jj∘JF∘JS'∘JP∘Jp 3∘Jj∘JZ∘Jz2) fun I => by exact .inl ⟨p, hop.trans hpr, _, _, _, NA, nc, SA, sc, rfl, hnc, hsc, I⟩
theorem qqu (A : Option Addr) (c : Nat) (l : List Nat) (B : Nat) (w : World) (hL : LaidX B w) (hB : B ≤ w.heap.size) (hr : Rd w w.heap.size 1 A l.length (l.map B8)) (hc : l.length ≤ c) (hn : l.length ≤ 100000000) (hl : ∀ z ∈ l, z < 256) {p : Pr} (h : opnR l = .ok p) : Calls Tryz.prog 57 #[.slice A l.length c] w (fun r w' => ∃ g iv av NA nc SA sc, r = .returned (.tuple #[vP g 0, vI 0]) ∧ p.nums.length ≤ nc ∧ p.secs.length ≤ sc ∧ Mem w w' [.blk g #[iv, av, .slice NA p.nums.length nc, .slice SA p.secs.length sc] 130, .row (.slice NA p.nums.length nc) p.nums.length (p.nums.map U64) 30 1, .row (.slice SA p.secs.length sc) p.secs.length (p.secs.flatMap secL) 69 3]) :=
 (qs6 A c l B w hL hB hr hc hn hl).mono fun r w' h1 => by
  rcases h1 with ⟨p2, h2, h3⟩ | ⟨k, h2, _⟩
  ·obtain rfl : p2 = p := by rw [h] at h2; injection h2 with h2; exact h2.symm
   exact h3
  ·rw [h] at h2; cases h2
theorem qqv (A : Option Addr) (c : Nat) (l : List Nat) (B : Nat) (w : World) (hL : LaidX B w) (hB : B ≤ w.heap.size) (hr : Rd w w.heap.size 1 A l.length (l.map B8)) (hc : l.length ≤ c) (hn : l.length ≤ 100000000) (hl : ∀ z ∈ l, z < 256) {k : Nat} (h : opnR l = .error k) : Calls Tryz.prog 57 #[.slice A l.length c] w (Is w (.tuple #[.pointer none, vI k])) :=
 (qs6 A c l B w hL hB hr hc hn hl).mono fun r w' h1 => by
  rcases h1 with ⟨p2, h2, _⟩ | ⟨k2, h2, h3⟩
  ·rw [h] at h2; cases h2
  ·obtain rfl : k2 = k := by rw [h] at h2; injection h2 with h2; exact h2.symm
   exact h3
theorem qhf (A : Option Addr) (c : Nat) (l : List Nat) (B : Nat) (w : World) (hL : LaidX B w) (hB : B ≤ w.heap.size) (hr : Rd w w.heap.size 1 A l.length (l.map B8)) (hc : l.length ≤ c) (hn : l.length ≤ 100000000) (hl : ∀ z ∈ l, z < 256) :
    Calls Tryz.prog 28 #[.slice A l.length c] w (qls w (errR l) (pnums l)) := by
 refine (JN1 Tryz.func28 18) ?_
 refine (JP∘Jp 2∘Jj∘JQ) fun a Z I => ?_
 rcases hop : opnR l with k | p
 ·
  have hke := qgz hop
  refine Jb Z I ((JR∘Jp 1∘JI (h:=by exact fun I => qqv A c l B _ (hL.mem I hB) (I.le hB) (I.old hr) hc hn hl hop)) fun w8 hbw => (Jp 1∘Jx∘Jx∘Jp 2∘Jj∘JQ∘JP∘Jp 2∘Jd1∘Jj) (Ju (fun hb12 => ?_) fun hb12 => ?_))
  ·
   intro a Z I
   have hd12 := bne_iff_ne.1 hb12
   exact Jb Z I ((JT∘JP∘Jp 3∘Jj∘JZ∘Jz2) fun I => qj9 _ (by rw [qe2 hop]) (qsm hop) I.below)
  intro a Z I
  have hd12 := bne_eq_false_iff_eq.1 hb12
  exfalso; omega
 ·
  refine Jb Z I ((JR∘Jp 1∘JL (h:=by exact fun I => qqu A c l B _ (hL.mem I hB) (I.le hB) (I.old hr) hc hn hl hop)) ?_)
  rintro I _ w8 ⟨g8, iv, av, NA, nc, SA, sc, rfl, hnc, hsc, hm⟩
  refine ⟨_, rfl, _, I.join hm, ?_⟩
  exact (Jp 1∘Jx∘Jx∘Jp 2∘Jj∘JQ∘JP∘Jv 2 [(12, .bool false)]∘Jj∘JF∘JS'∘JP∘Jp 1∘Jn∘Jg 2 O0∘Jp 2∘Jj∘JZ∘Jz2) fun I => qj8 (er' := 0) (qg0 hop).symm (q3b hop).symm (I.own (i := 1) rfl) hnc I.below
theorem qdr (A : Option Addr) (c : Nat) (l : List Nat) (B : Nat) (w : World) (hL : LaidX B w) (hB : B ≤ w.heap.size) (hr : Rd w w.heap.size 1 A l.length (l.map B8)) (hc : l.length ≤ c) (hn : l.length ≤ 100000000) (hl : ∀ z ∈ l, z < 256) :
    Calls Tryz.prog 29 #[.slice A l.length c] w (qip 69 w (errR l) (psecs l)) := by
 refine (JN1 Tryz.func29 18) ?_
 refine (JP∘Jp 2∘Jj∘JQ) fun a Z I => ?_
 rcases hop : opnR l with k | p
 ·
  have hke := qgz hop
  refine Jb Z I ((JR∘Jp 1∘JI (h:=by exact fun I => qqv A c l B _ (hL.mem I hB) (I.le hB) (I.old hr) hc hn hl hop)) fun w8 hbw => (Jp 1∘Jx∘Jx∘Jp 2∘Jj∘JQ∘JP∘Jp 2∘Jd1∘Jj) (Ju (fun hb12 => ?_) fun hb12 => ?_))
  ·
   intro a Z I
   have hd12 := bne_iff_ne.1 hb12
   exact Jb Z I ((JT∘JP∘Jp 3∘Jj∘JZ∘Jz2) fun I => qt6 _ (by rw [qe2 hop]) (qso hop) I.below)
  intro a Z I
  have hd12 := bne_eq_false_iff_eq.1 hb12
  exfalso; omega
 ·
  refine Jb Z I ((JR∘Jp 1∘JL (h:=by exact fun I => qqu A c l B _ (hL.mem I hB) (I.le hB) (I.old hr) hc hn hl hop)) ?_)
  rintro I _ w8 ⟨g8, iv, av, NA, nc, SA, sc, rfl, hnc, hsc, hm⟩
  refine ⟨_, rfl, _, I.join hm, ?_⟩
  exact (Jp 1∘Jx∘Jx∘Jp 2∘Jj∘JQ∘JP∘Jv 2 [(12, .bool false)]∘Jj∘JF∘JS'∘JP∘Jp 1∘Jn∘Jg 3 O0∘Jp 2∘Jj∘JZ∘Jz2) fun I => qt5 (er' := 0) (qg0 hop).symm (qsn hop).symm (I.own (i := 2) rfl) hsc I.below
def qo1 (W : World) (g k : Nat) (NA : Option Addr) (nc : Nat) (q : List Nat) (o : Bool) (fs : List Fact) (v : Value) (r : Ending) (w' : World) : Prop := r = .returned v ∧ Mem W w' (.blk g #[.slice (srcA NA nc k) (q.length - k) (nc - k), .bool o] 132 :: .row (.slice NA q.length nc) q.length (q.map U64) 30 1 :: fs)
theorem qo2 {W w' : World} {g k : Nat} {NA : Option Addr} {nc : Nat} {q : List Nat} {o b : Bool} {fs : List Fact} {v : Value} {r : Ending} (hr : r = .returned v) (ho : b = o) (I : Mem W w' (.blk g #[.slice (srcA NA nc k) (q.length - k) (nc - k), .bool b] 132 :: .row (.slice NA q.length nc) q.length (q.map U64) 30 1 :: fs)) : qo1 W g k NA nc q o fs v r w' := by subst ho; exact ⟨hr, I⟩
theorem q3s (x m : Nat) : decide ((x : Int) ≤ (m : Int)) = dle x m := decide_eq_decide.2 Int.ofNat_le
theorem qs1 (m : Nat) (W w : World) (g k : Nat) (NA : Option Addr) (nc : Nat) (q : List Nat) (o : Bool) (fs : List Fact) (HW : Mem W w (.blk g #[.slice (srcA NA nc k) (q.length - k) (nc - k), .bool o] 132 :: .row (.slice NA q.length nc) q.length (q.map U64) 30 1 :: fs)) (hqc : q.length ≤ nc) (hk : k < q.length) :
    Calls Tryz.prog 93 #[vP g 0, vQ m] w (qo1 W g (k + 1) NA nc q (o && dle (q.getD k 0) m) fs (vQ (q.getD k 0 : Int))) := by
 refine (JN2 Tryz.func93 33) ?_
 intro a Z I
 replace I := HW
 obtain ⟨gS, oS, hA, _⟩ := Rd.qu (qzs (I.rd (i := 1) rfl) hqc k om) om de
 refine Jb Z I ((JP∘Jp 1∘Jr∘Jp 1∘Jn∘Jf 0∘Jc O0∘Jo (.slice (some ⟨gS, oS, none⟩) (q.length - k) (nc - k)) (by rw [hA]; try rfl)∘Jy (v := vP gS oS) (h:=by exact Yl.indexAddr (ad := ⟨gS, oS, none⟩) (y := 0) (sz := 1) rfl rfl rfl om kr)∘Jy (v := vQ (q.getD k 0)) (h:=by exact Yl.qs rfl rfl kr (fun _ h => q9j (h.rd (i := 1) rfl) hqc hk hA))∘Jp 1∘Jd6∘Jr∘Jp 2∘Jn∘Jg 0 O0∘Jy (v := .slice (if nc - k = 1 then srcA NA nc k else (srcA NA nc k : Option Addr).map (·.add (1 * 1))) ((q.length - k) - 1) ((nc - k) - 1)) (h:=by exact Yl.sliceFrom qas (j := 1) rfl rfl rfl om)∘Jo (.slice (srcA NA nc (k + 1)) (q.length - (k + 1)) (nc - (k + 1))) (by exact rfl)∘Jn∘Jf 0∘JW O0' O0') fun w2_8 => (Jt6∘Jr∘Jp 2∘Jn∘Jg 1 O0∘Jp 1) (Ju (fun hb25 => ?_) fun hb25 => ?_))
 ·
  exact (Jp 4∘Jn∘Jf 1∘JW O0' O1') fun w3_12 => (Jt6∘Jr∘Jp 2∘Jd6∘Jj∘JZ∘Jz1) fun I => qo2 rfl (by rw [hb25, Bool.true_and]; exact q3s _ _) I
 exact (Jp 4∘Jn∘Jf 1∘JW O0' O1') fun w3_12 => (Jt6∘Jr∘Jp 2∘Jd6∘Jj∘JZ∘Jz1) fun I => qo2 rfl (by rw [hb25]; rfl) I
theorem qdp (m : Nat) (W w : World) (g k : Nat) (NA : Option Addr) (nc : Nat) (q : List Nat) (o : Bool) (fs : List Fact) (HW : Mem W w (.blk g #[.slice (srcA NA nc k) (q.length - k) (nc - k), .bool o] 132 :: .row (.slice NA q.length nc) q.length (q.map U64) 30 1 :: fs)) (hqc : q.length ≤ nc) (hk : k < q.length) {x k2 : Nat} {o2 : Bool} (hx : q.getD k 0 = x) (h2 : k + 1 = k2) (ho : (o && dle x m) = o2) : Calls Tryz.prog 93 #[vP g 0, vQ m] w (qo1 W g k2 NA nc q o2 fs (vQ x)) := by
 subst hx; subst h2; subst ho
 exact qs1 m W w g k NA nc q o fs HW hqc hk
theorem qz2 (W w : World) (g k : Nat) (NA : Option Addr) (nc : Nat) (q : List Nat) (o : Bool) (fs : List Fact) (HW : Mem W w (.blk g #[.slice (srcA NA nc k) (q.length - k) (nc - k), .bool o] 132 :: .row (.slice NA q.length nc) q.length (q.map U64) 30 1 :: fs)) (hqc : q.length ≤ nc) (hk : k < q.length) :
    Calls Tryz.prog 92 #[vP g 0] w (qo1 W g (k + 1) NA nc q (o && dle (q.getD k 0) mostI) fs (vI (toI (q.getD k 0)))) := by
 refine (JN1 Tryz.func92 6) ?_
 intro a Z I
 replace I := HW
 exact Jb Z I ((JP∘Jp 1∘Jr∘Jp 1∘JO (h:=by exact fun I => qs1 mostI W _ g k NA nc q o fs I hqc hk)) fun w4 => (Jv 1 [(5, vI (IntKind.i64.wrap (q.getD k 0 : Int)))]∘Jo (vI (toI (q.getD k 0))) (by exact rfl)∘Jp 1∘Jd3∘Jj∘JZ∘Jz1) fun I => by exact ⟨rfl, I⟩)
theorem qaq (W w : World) (g k : Nat) (NA : Option Addr) (nc : Nat) (q : List Nat) (o : Bool) (fs : List Fact) (HW : Mem W w (.blk g #[.slice (srcA NA nc k) (q.length - k) (nc - k), .bool o] 132 :: .row (.slice NA q.length nc) q.length (q.map U64) 30 1 :: fs)) (hqc : q.length ≤ nc) (hk : k < q.length) {x k2 : Nat} {o2 : Bool} {v : Int} (hx : q.getD k 0 = x) (h2 : k + 1 = k2) (ho : (o && dle x mostI) = o2) (hv : toI x = v) : Calls Tryz.prog 92 #[vP g 0] w (qo1 W g k2 NA nc q o2 fs (vI v)) := by
 subst hx; subst h2; subst ho; subst hv
 exact qz2 W w g k NA nc q o fs HW hqc hk
theorem Mem.zah {W w : World} {f r1 r2 r3 r4 r5 : Fact} {fs rs : List Fact} (h : Mem W w (f :: r1 :: r2 :: r3 :: r4 :: r5 :: (fs ++ rs))) : Mem W w (f :: (fs ++ ([r1, r2, r3, r4, r5] ++ rs))) := h.perm ((List.perm_append_comm_assoc [r1, r2, r3, r4, r5] fs rs).cons f)
theorem q7l (x : Nat) : ((x : Int) == (1 : Int)) = decide (x = 1) := by
 rw [Bool.eq_iff_iff, beq_iff_eq, decide_eq_true_eq]
 omega
theorem q3t {p : Pr} {j : Nat} (h : 0 < j) : p.okG (j + 1) = ((p.okG j && dle (p.gs.getD (2 * (j - 1)) 0) mostI) && dle (p.gs.getD (2 * (j - 1) + 1) 0) mostI) := if_neg om
theorem qz3 {p : Pr} {j : Nat} (h : j = 0) : p.okG (j + 1) = p.okG j := by subst h; rfl
theorem so_s0 {p : Pr} {y x : Nat} (h : y = 0) : p.so y (x + 1) = p.so y x + 1 := by subst h; rw [qml, qml]
theorem so_s3 {p : Pr} {y x : Nat} (h : 0 < y) : p.so y (x + 1) = p.so y x + 3 := by rw [qoz h, qoz h]; omega
theorem okR_z {p : Pr} {b : Bool} {y x : Nat} (h : y = 0) : p.okR b y (x + 1) = (p.okR b y x && dle (p.sn y x 0) 18446744073709551615) := if_pos h
theorem okR_p {p : Pr} {b : Bool} {y x : Nat} (h : 0 < y) : p.okR b y (x + 1) = (((p.okR b y x && dle (p.sn y x 0) 18446744073709551615) && dle (p.sn y x 1) 4294967295) && dle (p.sn y x 2) 18446744073709551615) := if_neg om
def q3u (W : World) (g : Nat) (p : Pr) (fs : List Fact) (r : Ending) (w' : World) : Prop := ∃ (z : Snm) (A : Option Addr) (n c : Nat), r = .returned (.agg z.cells) ∧ SnEq p.snA z ∧ StCap z.st ∧ Mem W w' (.blk g #[.slice A n c, .bool p.okB] 132 :: (fs ++ stF z.st))
theorem qvn (W w : World) (g : Nat) (NA : Option Addr) (nc : Nat) (p : Pr) (h : p.Fit) (fs : List Fact) (HW : Mem W w (.blk g #[.slice NA p.nums.length nc, .bool true] 132 :: .row (.slice NA p.nums.length nc) p.nums.length (p.nums.map U64) 30 1 :: fs)) (hnc : p.nums.length ≤ nc) :
    Calls Tryz.prog 58 #[vP g 0] w (q3u W g p fs) := by
 obtain ⟨hnl, hsl⟩ := q3j h
 have n0 := q3i p
 have eC : p.oC = 4 + 2 * (p.gp - 1) := rfl
 have eT : p.oT = p.oC + 2 * p.cp := rfl
 have eS : p.oS = p.oT + 1 + 8 * p.tk := rfl
 have c1 := h.cp1; have c2 := h.cp2; have c3 := h.gp1; have c4 := h.gp2; have c5 := h.tk
 refine (JN1 Tryz.func58 191) ?_
 intro a Z I
 replace I := HW
 refine Jb Z I ((JP∘JA #[vI 0, vI 0, vQ 0, vN, vN, vN, vN, vN]) fun w2 g2 => (Jr∘Jp 1∘JO (h:=by exact fun I => qaq W _ g 0 NA nc p.nums true _ (I.pt 3 [1, 2, 0]) hnc om (x := p.nx) (k2 := 1) (o2 := true && dle p.nx mostI) (n0.1) (rfl) (rfl) (rfl))) fun w13 => (Jy (v := .agg #[vI (toI p.nx), vI 0, vQ 0, vN, vN, vN, vN, vN]) (h:=by exact Yl.build (vs := [(0, vI (toI p.nx))]) rfl kr kr)∘JA #[vI 0, vI 0, vQ 0, vN, vN, vN, vN, vN]) fun w3 g3 => (JV zb O0') fun w1_4 => (Jd3∘Jr∘Jf 1∘Jp 1∘Jd1∘Jr∘Jp 3∘JO (h:=by exact fun I => qaq W _ g 1 NA nc p.nums (true && dle p.nx mostI) _ (I.pt 4 [1, 2, 0, 3]) hnc om (x := p.cp) (k2 := 2) (o2 := (true && dle p.nx mostI) && dle p.cp mostI) (n0.2.1) (rfl) (rfl) (qqr om))) fun w19 => (Jp 1∘JO (h:=by exact fun I => qdp 18446744073709551615 W _ g 2 NA nc p.nums ((true && dle p.nx mostI) && dle p.cp mostI) _ (I.pt 4 [0, 1, 2, 3]) hnc om (x := p.cr) (k2 := 3) (o2 := ((true && dle p.nx mostI) && dle p.cp mostI) && dle p.cr 18446744073709551615) (n0.2.2.1) (rfl) (rfl))) fun w21 => (Jn∘Jf 0∘Jf 0∘JW O2' O1') fun w3_9 => (Jn∘Jf 0∘Jf 1∘JW O2' O2') fun w3_13 => (Jt6∘Jj∘JQ∘JP∘Jp 1∘JO (h:=by exact fun I => qaq W _ g 3 NA nc p.nums (((true && dle p.nx mostI) && dle p.cp mostI) && dle p.cr 18446744073709551615) _ (I.pt 4 [0, 1, 2, 3]) hnc om (x := p.gp) (k2 := 4 + 2 * (0 - 1)) (o2 := p.okG 0) (n0.2.2.2) (rfl) (rfl) (qqr om))) fun w29 => (Jp 1∘Jq) fun a Z I => ?_)
 replace I := I.nil 110 2
 refine Jb Z I ((JG∘JB) fun a Z I => ?_)
 refine qe (fun mS aS wS => ∃ (j : Nat) (G : List Gr) (Ag : Option Addr) (cg : Nat), (j ≤ p.gp) ∧ (G = mapR j p.grp) ∧ (G.length = j) ∧ (G.length ≤ cg) ∧ mS = p.gp - j ∧ Fr aS 191 [] [(30, vI j), (29, vI p.gp), (4, vP g3 1), (3, vP g3 0), (2, vP g2 0), (0, vP g 0)] ∧ Mem W wS (.row (.slice Ag G.length cg) G.length (G.flatMap grL) 110 2 :: .blk g #[.slice (srcA NA nc (4 + 2 * (j - 1))) (p.nums.length - (4 + 2 * (j - 1))) (nc - (4 + 2 * (j - 1))), .bool (p.okG j)] 132 :: .row (.slice NA p.nums.length nc) p.nums.length (p.nums.map U64) 30 1 :: .blk g3 #[vI (toI p.nx), vI p.cp, vQ p.cr, .slice Ag G.length cg, vN, vN, vN, vN] 40 :: .blk g2 #[vI 0, vI 0, vQ 0, vN, vN, vN, vN, vN] 40 :: fs)) (m := p.gp - 0) ⟨0, [], none, 0, Nat.zero_le _, rfl, rfl, Nat.le_refl _, rfl, Z.sub kr, I.pt 5 [0, 1, 2, 3, 4]⟩ ?_
 clear Z I; rintro mS a w_ ⟨j, G, Ag, cg, hj, hG, hGl, hGc, rfl, Z, I⟩
 refine Jb Z I ((JP∘Jp 1∘Jj∘JQ) (Ji (fun hd31 => ?_) fun hd31 => ?_))
 ·
  refine (JT∘JS'∘JQ∘JB∘JP∘Jp 2∘Jd1∘Jr∘Jy (v := .agg #[vI 0, vI 1]) (h:=by exact Yl.build (vs := [(1, vI 1)]) rfl kr kr)∘JA #[vI 0, vI 0]) fun w6 g6 => (JV si_gr O0') fun w7_2 => (Jd1∘Jj∘JQ∘JP∘Jp 2∘Jd1∘Jj) (Ju (fun hb35 => ?_) fun hb35 => ?_)
  ·
   intro a Z I
   have hd35 := of_decide_eq_true hb35
   have hgr : p.grp j = ⟨toI (p.gs.getD (2 * (j - 1)) 0), toI (p.gs.getD (2 * (j - 1) + 1) 0)⟩ := if_neg om
   refine Jb Z I ((JT∘JR∘Jp 1∘JO (h:=by exact fun I => qaq W _ g (4 + 2 * (j - 1)) NA nc p.nums (p.okG j) _ (I.pt 6 [2, 3, 0, 1, 4, 5]) hnc om (x := p.gs.getD (2 * (j - 1)) 0) (k2 := 4 + (2 * (j - 1) + 1)) (o2 := p.okG j && dle (p.gs.getD (2 * (j - 1)) 0) mostI) (qzr h (j := 2 * (j - 1)) om) (rfl) (rfl) (rfl))) fun w37 => (Jp 1∘JO (h:=by exact fun I => qaq W _ g (4 + (2 * (j - 1) + 1)) NA nc p.nums (p.okG j && dle (p.gs.getD (2 * (j - 1)) 0) mostI) _ (I.pt 6 [0, 1, 2, 3, 4, 5]) hnc om (x := p.gs.getD (2 * (j - 1) + 1) 0) (k2 := 4 + 2 * (j + 1 - 1)) (o2 := (p.okG j && dle (p.gs.getD (2 * (j - 1)) 0) mostI) && dle (p.gs.getD (2 * (j - 1) + 1) 0) mostI) (qzr h (j := 2 * (j - 1) + 1) om) om (rfl) (rfl))) fun w39 => (Jf 0∘JW O2' O0') fun w9_5 => (Jf 1∘JW O2' O1') fun w9_7 => (Jt6∘Jq) fun a Z I => ?_)
   replace I : Mem W _ (.blk g #[.slice (srcA NA nc (4 + 2 * (j + 1 - 1))) (p.nums.length - (4 + 2 * (j + 1 - 1))) (nc - (4 + 2 * (j + 1 - 1))), .bool ((p.okG j && dle (p.gs.getD (2 * (j - 1)) 0) mostI) && dle (p.gs.getD (2 * (j - 1) + 1) 0) mostI)] 132 :: .row (.slice NA p.nums.length nc) p.nums.length (p.nums.map U64) 30 1 :: .blk g6 #[vI (toI (p.gs.getD (2 * (j - 1)) 0)), vI (toI (p.gs.getD (2 * (j - 1) + 1) 0))] 110 :: .row (.slice Ag G.length cg) G.length (G.flatMap grL) 110 2 :: .blk g3 #[vI (toI p.nx), vI p.cp, vQ p.cr, .slice Ag G.length cg, vN, vN, vN, vN] 40 :: .blk g2 #[vI 0, vI 0, vQ 0, vN, vN, vN, vN, vN] 40 :: fs) := I
   refine Jb Z I ((JG∘Vs (.t (.t (.t (.f .n)))) [12]) fun wd10 => (Vp [0, 1]∘Vn 2∘Vf 3 0∘Vf 4 2∘Vc 5 O3∘Vy 6 (v := .agg #[vI (toI (p.gs.getD (2 * (j - 1)) 0)), vI (toI (p.gs.getD (2 * (j - 1) + 1) 0))]) (h:=by exact Yl.loadS rfl rfl si_gr rfl (fun _ h => qb (h.blk (i := 2) rfl)))) fun a Z I HS => ?_)
   refine s_on Z 7 rfl (s_el Z I ei_gr [(0, .agg #[vI (toI (p.gs.getD (2 * (j - 1)) 0)), vI (toI (p.gs.getD (2 * (j - 1) + 1) 0))])] #[vI (toI (p.gs.getD (2 * (j - 1)) 0)), vI (toI (p.gs.getD (2 * (j - 1) + 1) 0))] ?_)
   clear Z I; intro a w49 g49 Z I
   refine keepS (I.pt 7 [1, 2, 3, 5, 6]) (fun HS => ?_)
   refine s_on Z 8 rfl (qa2 Z I (i := 4) rfl ei_gr rfl rfl rfl (news := ([(⟨toI (p.gs.getD (2 * (j - 1)) 0), toI (p.gs.getD (2 * (j - 1) + 1) 0)⟩ : Gr)].flatMap grL)) (I.rdBlk (i := 0) (n := 1) (size := 2) rfl rfl) (qnq _) om om rfl de ?_)
   clear Z I; intro a w50 A50 c50 Z I hc50
   refine keepS (I.pt 7 [1, 2, 3, 5, 6]) (fun HS => ?_)
   refine Vb Z I HS ((Vn 9∘Vf 10 0∘Vf 11 2) fun a Z I HS => ?_)
   refine s_on Z 12 rfl (s_es Z I 5 ?_)
   clear I; intro w10_12 I
   refine noS kr ?_
   refine qc kr ?_
   have hnA50 : G.length + 1 = (G ++ [p.grp j]).length := zk rfl
   replace I := I.reRow (i := 4) (ys := (G ++ [p.grp j]).flatMap grL) rfl hnA50 (by rw [hgr]; exact List.flatMap_append.symm)
   rw [hnA50] at hc50
   replace Z := Z.sp 50 (.slice A50 ((G ++ [p.grp j]).length) c50) rfl (by rw [hnA50])
   replace I := I.reBlk (i := 5) (ds := #[vI (toI p.nx), vI p.cp, vQ p.cr, .slice A50 ((G ++ [p.grp j]).length) c50, vN, vN, vN, vN]) rfl (by rw [hnA50]; try rfl)
   refine Jb Z I ((JG∘JR∘JaK 1∘Jp 1∘Jd1∘Jq) fun a Z I => ?_)
   replace I := I.reBlk (i := 1) (ds := #[.slice (srcA NA nc (4 + 2 * (j + 1 - 1))) (p.nums.length - (4 + 2 * (j + 1 - 1))) (nc - (4 + 2 * (j + 1 - 1))), .bool (p.okG (j + 1))]) rfl (by rw [q3t om])
   exact ⟨_, om, j + 1, (G ++ [p.grp j]), A50, c50, by omega, by rw [hG, qbb], by rw [List.length_append, hGl]; rfl, hc50, rfl, Z.sub kr, I.pt 7 [4, 1, 2, 5, 6]⟩
  intro a Z I
  have hd35 := of_decide_eq_false hb35
  have hgr : p.grp j = ⟨0, 1⟩ := if_pos om
  refine Jb Z I ((JF∘JS'∘Vs (.t (.f .n)) [12]) fun wd10 => (Vp [0, 1]∘Vn 2∘Vf 3 0∘Vf 4 2∘Vc 5 O3∘Vy 6 (v := .agg #[vI 0, vI 1]) (h:=by exact Yl.loadS rfl rfl si_gr rfl (fun _ h => qb (h.blk (i := 0) rfl)))) fun a Z I HS => ?_)
  refine s_on Z 7 rfl (s_el Z I ei_gr [(0, .agg #[vI 0, vI 1])] #[vI 0, vI 1] ?_)
  clear Z I; intro a w49 g49 Z I
  refine keepS (I.pt 7 [1, 3, 4, 5, 6]) (fun HS => ?_)
  refine s_on Z 8 rfl (qa2 Z I (i := 2) rfl ei_gr rfl rfl rfl (news := ([(⟨0, 1⟩ : Gr)].flatMap grL)) (I.rdBlk (i := 0) (n := 1) (size := 2) rfl rfl) (qnq _) om om rfl de ?_)
  clear Z I; intro a w50 A50 c50 Z I hc50
  refine keepS (I.pt 7 [1, 3, 4, 5, 6]) (fun HS => ?_)
  refine Vb Z I HS ((Vn 9∘Vf 10 0∘Vf 11 2) fun a Z I HS => ?_)
  refine s_on Z 12 rfl (s_es Z I 5 ?_)
  clear I; intro w10_12 I
  refine noS kr ?_
  refine qc kr ?_
  have hnA50 : G.length + 1 = (G ++ [p.grp j]).length := zk rfl
  replace I := I.reRow (i := 2) (ys := (G ++ [p.grp j]).flatMap grL) rfl hnA50 (by rw [hgr]; exact List.flatMap_append.symm)
  rw [hnA50] at hc50
  replace Z := Z.sp 50 (.slice A50 ((G ++ [p.grp j]).length) c50) rfl (by rw [hnA50])
  replace I := I.reBlk (i := 5) (ds := #[vI (toI p.nx), vI p.cp, vQ p.cr, .slice A50 ((G ++ [p.grp j]).length) c50, vN, vN, vN, vN]) rfl (by rw [hnA50]; try rfl)
  refine Jb Z I ((JG∘JR∘JaK 1∘Jp 1∘Jd1∘Jq) fun a Z I => ?_)
  replace I := I.reBlk (i := 3) (ds := #[.slice (srcA NA nc (4 + 2 * (j + 1 - 1))) (p.nums.length - (4 + 2 * (j + 1 - 1))) (nc - (4 + 2 * (j + 1 - 1))), .bool (p.okG (j + 1))]) rfl (by rw [qz3 om, show 4 + 2 * (j + 1 - 1) = 4 + 2 * (j - 1) by omega])
  exact ⟨_, om, j + 1, (G ++ [p.grp j]), A50, c50, by omega, by rw [hG, qbb], by rw [List.length_append, hGl]; rfl, hc50, rfl, Z.sub kr, I.pt 7 [2, 3, 4, 5, 6]⟩
 refine (JF∘JX∘JG∘JQ∘JP∘Jp 1∘Jn∘Jf 0∘Jg 0 O3∘Jp 1∘Jq) fun a Z I => ?_
 replace I := I.nil 3 1
 replace I := I.reBlk (i := 2) (ds := #[.slice (srcA NA nc (p.oC + 0)) (p.nums.length - (p.oC + 0)) (nc - (p.oC + 0)), .bool (p.okC 0)]) rfl (by rw [show j = p.gp by omega]; rfl)
 refine Jb Z I ((JG∘JB) fun a Z I => ?_)
 refine qe (fun mS aS wS => ∃ (k : Nat) (C : List Int) (Al : Option Addr) (cl : Nat), (k ≤ p.cp) ∧ (C = mapR k fun i => toI (p.cl.getD i 0)) ∧ (C.length = k) ∧ (C.length ≤ cl) ∧ mS = p.cp - k ∧ Fr aS 191 [] [(60, vI k), (59, vI p.cp), (31, .bool false), (30, vI j), (29, vI p.gp), (4, vP g3 1), (3, vP g3 0), (2, vP g2 0), (0, vP g 0)] ∧ Mem W wS (.row (.slice Al C.length cl) C.length (C.map I64i) 3 1 :: .row (.slice Ag G.length cg) G.length (G.flatMap grL) 110 2 :: .blk g #[.slice (srcA NA nc (p.oC + k)) (p.nums.length - (p.oC + k)) (nc - (p.oC + k)), .bool (p.okC k)] 132 :: .row (.slice NA p.nums.length nc) p.nums.length (p.nums.map U64) 30 1 :: .blk g3 #[vI (toI p.nx), vI p.cp, vQ p.cr, .slice Ag G.length cg, .slice Al C.length cl, vN, vN, vN] 40 :: .blk g2 #[vI 0, vI 0, vQ 0, vN, vN, vN, vN, vN] 40 :: fs)) (m := p.cp - 0) ⟨0, [], none, 0, Nat.zero_le _, rfl, rfl, Nat.le_refl _, rfl, Z.sub kr, I.pt 6 [0, 1, 2, 3, 4, 5]⟩ ?_
 clear Z I; rintro mS a w_ ⟨k, C, Al, cl, hk, hC, hCl, hCc, rfl, Z, I⟩
 refine Jb Z I ((JP∘Jp 1∘Jj∘JQ) (Ji (fun hd61 => ?_) fun hd61 => ?_))
 ·
  refine (JT∘JS'∘JQ∘JB∘Vs (.f (.t (.f .n))) [11]) fun wd14 => (Vp [0, 1, 5]∘Vn 2∘Vf 3 3∘Vc 4 O2) fun a Z I HS => ?_
  refine s_on Z 6 rfl ?_
  refine s_em Z [vP g 0] (qaq W _ g (p.oC + k) NA nc p.nums (p.okC k) _ (I.pt 6 [2, 3, 0, 1, 4, 5]) hnc om (x := p.cl.getD k 0) (k2 := p.oC + (k + 1)) (o2 := p.okC (k + 1)) (q69 h om) (rfl) (rfl) (rfl)) fun w68 I a Z => ?_
  refine keepS (I.pt 6 [3, 1, 4, 5]) (fun HS => ?_)
  refine s_on Z 7 rfl (s_el Z I zq [(0, vI (toI (p.cl.getD k 0)))] #[vI (toI (p.cl.getD k 0))] ?_)
  clear Z I; intro a w69 g69 Z I
  refine keepS (I.pt 7 [4, 2, 5, 6]) (fun HS => ?_)
  refine s_on Z 8 rfl (qa2 Z I (i := 3) rfl zq rfl rfl rfl (news := ([toI (p.cl.getD k 0)].map I64i)) (I.rdBlk (i := 0) (n := 1) (size := 1) rfl rfl) (qpw _) om om rfl de ?_)
  clear Z I; intro a w70 A70 c70 Z I hc70
  refine keepS (I.pt 7 [4, 2, 5, 6]) (fun HS => ?_)
  refine Vb Z I HS ((Vn 9∘Vf 10 3) fun a Z I HS => ?_)
  refine s_on Z 11 rfl (s_es Z I 5 ?_)
  clear I; intro w14_11 I
  refine noS kr ?_
  refine qc kr ?_
  have hnA70 : C.length + 1 = (C ++ [toI (p.cl.getD k 0)]).length := zk rfl
  replace I := I.reRow (i := 3) (ys := (C ++ [toI (p.cl.getD k 0)]).map I64i) rfl hnA70 (by exact List.map_append.symm)
  rw [hnA70] at hc70
  replace Z := Z.sp 70 (.slice A70 ((C ++ [toI (p.cl.getD k 0)]).length) c70) rfl (by rw [hnA70])
  replace I := I.reBlk (i := 5) (ds := #[vI (toI p.nx), vI p.cp, vQ p.cr, .slice Ag G.length cg, .slice A70 ((C ++ [toI (p.cl.getD k 0)]).length) c70, vN, vN, vN]) rfl (by rw [hnA70]; try rfl)
  refine Jb Z I ((JG∘JR∘JaK 1∘Jp 1∘Jd1∘Jq) fun a Z I => ?_)
  exact ⟨_, om, k + 1, (C ++ [toI (p.cl.getD k 0)]), A70, c70, by omega, by rw [hC, qbb], by rw [List.length_append, hCl]; rfl, hc70, rfl, Z.sub kr, I.pt 7 [3, 4, 1, 2, 5, 6]⟩
 refine (JF∘JX∘JG∘JQ∘JP∘Jp 1∘Jn∘Jf 0∘Jg 0 O4∘Jp 1∘Jq) fun a Z I => ?_
 replace I := I.nil 3 1
 replace I := I.reBlk (i := 3) (ds := #[.slice (srcA NA nc (p.oC + p.cp + 0)) (p.nums.length - (p.oC + p.cp + 0)) (nc - (p.oC + p.cp + 0)), .bool (p.okU 0)]) rfl (by rw [show k = p.cp by omega]; rfl)
 refine Jb Z I ((JG∘JB) fun a Z I => ?_)
 refine qe (fun mS aS wS => ∃ (u : Nat) (U : List Int) (Au : Option Addr) (cu : Nat), (u ≤ p.cp) ∧ (U = mapR u fun i => toI (p.cu.getD i 0)) ∧ (U.length = u) ∧ (U.length ≤ cu) ∧ mS = p.cp - u ∧ Fr aS 191 [] [(79, vI u), (78, vI p.cp), (61, .bool false), (60, vI k), (59, vI p.cp), (31, .bool false), (30, vI j), (29, vI p.gp), (4, vP g3 1), (3, vP g3 0), (2, vP g2 0), (0, vP g 0)] ∧ Mem W wS (.row (.slice Au U.length cu) U.length (U.map I64i) 3 1 :: .row (.slice Al C.length cl) C.length (C.map I64i) 3 1 :: .row (.slice Ag G.length cg) G.length (G.flatMap grL) 110 2 :: .blk g #[.slice (srcA NA nc (p.oC + p.cp + u)) (p.nums.length - (p.oC + p.cp + u)) (nc - (p.oC + p.cp + u)), .bool (p.okU u)] 132 :: .row (.slice NA p.nums.length nc) p.nums.length (p.nums.map U64) 30 1 :: .blk g3 #[vI (toI p.nx), vI p.cp, vQ p.cr, .slice Ag G.length cg, .slice Al C.length cl, .slice Au U.length cu, vN, vN] 40 :: .blk g2 #[vI 0, vI 0, vQ 0, vN, vN, vN, vN, vN] 40 :: fs)) (m := p.cp - 0) ⟨0, [], none, 0, Nat.zero_le _, rfl, rfl, Nat.le_refl _, rfl, Z.sub kr, I.pt 7 [0, 1, 2, 3, 4, 5, 6]⟩ ?_
 clear Z I; rintro mS a w_ ⟨u, U, Au, cu, hu, hU, hUl, hUc, rfl, Z, I⟩
 refine Jb Z I ((JP∘Jp 1∘Jj∘JQ) (Ji (fun hd80 => ?_) fun hd80 => ?_))
 ·
  refine (JT∘JS'∘JQ∘JB∘Vs (.f (.t (.t (.f .n)))) [11]) fun wd18 => (Vp [0, 1, 5]∘Vn 2∘Vf 3 4∘Vc 4 O3) fun a Z I HS => ?_
  refine s_on Z 6 rfl ?_
  refine s_em Z [vP g 0] (qaq W _ g (p.oC + p.cp + u) NA nc p.nums (p.okU u) _ (I.pt 7 [3, 4, 0, 1, 2, 5, 6]) hnc om (x := p.cu.getD u 0) (k2 := p.oC + p.cp + (u + 1)) (o2 := p.okU (u + 1)) (q7a h om) (rfl) (rfl) (rfl)) fun w87 I a Z => ?_
  refine keepS (I.pt 7 [3, 4, 1, 5, 6]) (fun HS => ?_)
  refine s_on Z 7 rfl (s_el Z I zq [(0, vI (toI (p.cu.getD u 0)))] #[vI (toI (p.cu.getD u 0))] ?_)
  clear Z I; intro a w88 g88 Z I
  refine keepS (I.pt 8 [4, 5, 2, 6, 7]) (fun HS => ?_)
  refine s_on Z 8 rfl (qa2 Z I (i := 3) rfl zq rfl rfl rfl (news := ([toI (p.cu.getD u 0)].map I64i)) (I.rdBlk (i := 0) (n := 1) (size := 1) rfl rfl) (qpw _) om om rfl de ?_)
  clear Z I; intro a w89 A89 c89 Z I hc89
  refine keepS (I.pt 8 [4, 5, 2, 6, 7]) (fun HS => ?_)
  refine Vb Z I HS ((Vn 9∘Vf 10 4) fun a Z I HS => ?_)
  refine s_on Z 11 rfl (s_es Z I 6 ?_)
  clear I; intro w18_11 I
  refine noS kr ?_
  refine qc kr ?_
  have hnA89 : U.length + 1 = (U ++ [toI (p.cu.getD u 0)]).length := zk rfl
  replace I := I.reRow (i := 3) (ys := (U ++ [toI (p.cu.getD u 0)]).map I64i) rfl hnA89 (by exact List.map_append.symm)
  rw [hnA89] at hc89
  replace Z := Z.sp 89 (.slice A89 ((U ++ [toI (p.cu.getD u 0)]).length) c89) rfl (by rw [hnA89])
  replace I := I.reBlk (i := 6) (ds := #[vI (toI p.nx), vI p.cp, vQ p.cr, .slice Ag G.length cg, .slice Al C.length cl, .slice A89 ((U ++ [toI (p.cu.getD u 0)]).length) c89, vN, vN]) rfl (by rw [hnA89]; try rfl)
  refine Jb Z I ((JG∘JR∘JaK 1∘Jp 1∘Jd1∘Jq) fun a Z I => ?_)
  exact ⟨_, om, u + 1, (U ++ [toI (p.cu.getD u 0)]), A89, c89, by omega, by rw [hU, qbb], by rw [List.length_append, hUl]; rfl, hc89, rfl, Z.sub kr, I.pt 8 [3, 4, 5, 1, 2, 6, 7]⟩
 refine (JF∘JX∘JG∘JP∘Jp 1∘Jq) fun a Z I => ?_
 replace I := I.reBlk (i := 3) (ds := #[.slice (srcA NA nc p.oT) (p.nums.length - p.oT) (nc - p.oT), .bool (p.okU p.cp)]) rfl (by rw [show u = p.cp by omega, show p.oC + p.cp + p.cp = p.oT by omega])
 refine Jb Z I ((JG∘JQ∘JP∘Jp 1∘JO (h:=by exact fun I => qaq W _ g p.oT NA nc p.nums (p.okU p.cp) _ (I.pt 7 [3, 4, 0, 1, 2, 5, 6]) hnc om (x := p.tk) (k2 := p.oT + 1 + 8 * 0) (o2 := p.okT 0) (q7b h) (rfl) (rfl) (qqr om))) fun w94 => (Jp 1∘Jq) fun a Z I => ?_)
 replace I := I.nil 61 8
 refine Jb Z I ((JG∘JB) fun a Z I => ?_)
 refine qe (fun mS aS wS => ∃ (i : Nat) (T : List Tk) (At : Option Addr) (ct : Nat), (i ≤ p.tk) ∧ (T = mapR i p.tsk) ∧ (T.length = i) ∧ (T.length ≤ ct) ∧ mS = p.tk - i ∧ Fr aS 191 [] [(95, vI i), (94, vI p.tk), (7, vI (p.idB i)), (80, .bool false), (79, vI u), (78, vI p.cp), (61, .bool false), (60, vI k), (59, vI p.cp), (31, .bool false), (30, vI j), (29, vI p.gp), (4, vP g3 1), (3, vP g3 0), (2, vP g2 0), (0, vP g 0)] ∧ Mem W wS (.row (.slice At T.length ct) T.length (T.flatMap tkL) 61 8 :: .blk g #[.slice (srcA NA nc (p.oT + 1 + 8 * i)) (p.nums.length - (p.oT + 1 + 8 * i)) (nc - (p.oT + 1 + 8 * i)), .bool (p.okT i)] 132 :: .row (.slice NA p.nums.length nc) p.nums.length (p.nums.map U64) 30 1 :: .row (.slice Au U.length cu) U.length (U.map I64i) 3 1 :: .row (.slice Al C.length cl) C.length (C.map I64i) 3 1 :: .row (.slice Ag G.length cg) G.length (G.flatMap grL) 110 2 :: .blk g3 #[vI (toI p.nx), vI p.cp, vQ p.cr, .slice Ag G.length cg, .slice Al C.length cl, .slice Au U.length cu, .slice At T.length ct, vN] 40 :: .blk g2 #[vI 0, vI 0, vQ 0, vN, vN, vN, vN, vN] 40 :: fs)) (m := p.tk - 0) ⟨0, [], none, 0, Nat.zero_le _, rfl, rfl, Nat.le_refl _, rfl, Z.sub kr, I.pt 8 [0, 1, 2, 3, 4, 5, 6, 7]⟩ ?_
 clear Z I; rintro mS a w_ ⟨i, T, At, ct, hi, hT, hTl, hTc, rfl, Z, I⟩
 refine Jb Z I ((JP∘Jp 1∘Jj∘JQ) (Ji (fun hd96 => ?_) fun hd96 => ?_))
 ·
  refine (JT∘JS'∘JQ∘JB∘JP∘Jp 2∘JO (h:=by exact fun I => qaq W _ g (p.oT + 1 + 8 * i) NA nc p.nums (p.okT i) _ (I.pt 8 [1, 2, 0, 3, 4, 5, 6, 7]) hnc om (x := p.tn i 0) (k2 := p.oT + 1 + (8 * i + 1)) (o2 := p.okT i && dle (p.tn i 0) mostI) (qd5 h (j := 8 * i) om) (rfl) (rfl) (rfl))) fun w99 => (Jp 1∘Jo (vI (p.idA i)) (by exact rfl)∘Jp 1∘Jd4∘Jr∘Jp 2∘JO (h:=by exact fun I => qaq W _ g (p.oT + 1 + (8 * i + 1)) NA nc p.nums (p.okT i && dle (p.tn i 0) mostI) _ (I.pt 8 [0, 1, 2, 3, 4, 5, 6, 7]) hnc om (x := p.tn i 1) (k2 := p.oT + 1 + (8 * i + 2)) (o2 := (p.okT i && dle (p.tn i 0) mostI) && dle (p.tn i 1) mostI) (qd5 h (j := 8 * i + 1) om) (rfl) (rfl) (rfl))) fun w103 => (Jp 1∘JO (h:=by exact fun I => qaq W _ g (p.oT + 1 + (8 * i + 2)) NA nc p.nums ((p.okT i && dle (p.tn i 0) mostI) && dle (p.tn i 1) mostI) _ (I.pt 8 [0, 1, 2, 3, 4, 5, 6, 7]) hnc om (x := p.tn i 2) (k2 := p.oT + 1 + (8 * i + 3)) (o2 := ((p.okT i && dle (p.tn i 0) mostI) && dle (p.tn i 1) mostI) && dle (p.tn i 2) mostI) (qd5 h (j := 8 * i + 2) om) (rfl) (rfl) (rfl))) fun w105 => (Jp 1∘JO (h:=by exact fun I => qaq W _ g (p.oT + 1 + (8 * i + 3)) NA nc p.nums (((p.okT i && dle (p.tn i 0) mostI) && dle (p.tn i 1) mostI) && dle (p.tn i 2) mostI) _ (I.pt 8 [0, 1, 2, 3, 4, 5, 6, 7]) hnc om (x := p.tn i 3) (k2 := p.oT + 1 + (8 * i + 4)) (o2 := (((p.okT i && dle (p.tn i 0) mostI) && dle (p.tn i 1) mostI) && dle (p.tn i 2) mostI) && dle (p.tn i 3) mostI) (qd5 h (j := 8 * i + 3) om) (rfl) (rfl) (rfl))) fun w107 => (Jp 1∘JO (h:=by exact fun I => qdp 18446744073709551615 W _ g (p.oT + 1 + (8 * i + 4)) NA nc p.nums ((((p.okT i && dle (p.tn i 0) mostI) && dle (p.tn i 1) mostI) && dle (p.tn i 2) mostI) && dle (p.tn i 3) mostI) _ (I.pt 8 [0, 1, 2, 3, 4, 5, 6, 7]) hnc om (x := p.tn i 4) (k2 := p.oT + 1 + (8 * i + 5)) (o2 := ((((p.okT i && dle (p.tn i 0) mostI) && dle (p.tn i 1) mostI) && dle (p.tn i 2) mostI) && dle (p.tn i 3) mostI) && dle (p.tn i 4) 18446744073709551615) (qd5 h (j := 8 * i + 4) om) (rfl) (rfl))) fun w109 => (Jy (v := .agg #[vI (p.idA i), vI (toI (p.tn i 1)), vI (toI (p.tn i 2)), vI (toI (p.tn i 3)), vQ (p.tn i 4), .bool false, vQ 0, vW 0]) (h:=by exact Yl.build (vs := [(0, vI (p.idA i)), (1, vI (toI (p.tn i 1))), (2, vI (toI (p.tn i 2))), (3, vI (toI (p.tn i 3))), (4, vQ (p.tn i 4))]) rfl kr kr)∘JA #[vI 0, vI 0, vI 0, vI 0, vQ 0, .bool false, vQ 0, vW 0]) fun w8 g8 => (JV si_tk O0') fun w24_11 => (Jd6∘Jq) fun a Z I => ?_
  replace I : Mem W _ (.blk g8 #[vI (p.idA i), vI (toI (p.tn i 1)), vI (toI (p.tn i 2)), vI (toI (p.tn i 3)), vQ (p.tn i 4), .bool false, vQ 0, vW 0] 61 :: .blk g #[.slice (srcA NA nc (p.oT + 1 + (8 * i + 5))) (p.nums.length - (p.oT + 1 + (8 * i + 5))) (nc - (p.oT + 1 + (8 * i + 5))), .bool (((((p.okT i && dle (p.tn i 0) mostI) && dle (p.tn i 1) mostI) && dle (p.tn i 2) mostI) && dle (p.tn i 3) mostI) && dle (p.tn i 4) 18446744073709551615)] 132 :: .row (.slice NA p.nums.length nc) p.nums.length (p.nums.map U64) 30 1 :: .row (.slice At T.length ct) T.length (T.flatMap tkL) 61 8 :: .row (.slice Au U.length cu) U.length (U.map I64i) 3 1 :: .row (.slice Al C.length cl) C.length (C.map I64i) 3 1 :: .row (.slice Ag G.length cg) G.length (G.flatMap grL) 110 2 :: .blk g3 #[vI (toI p.nx), vI p.cp, vQ p.cr, .slice Ag G.length cg, .slice Al C.length cl, .slice Au U.length cu, .slice At T.length ct, vN] 40 :: .blk g2 #[vI 0, vI 0, vQ 0, vN, vN, vN, vN, vN] 40 :: fs) := I
  refine Jb Z I ((JG∘JP∘Jp 1∘JO (h:=by exact fun I => qdp 1 W _ g (p.oT + 1 + (8 * i + 5)) NA nc p.nums (((((p.okT i && dle (p.tn i 0) mostI) && dle (p.tn i 1) mostI) && dle (p.tn i 2) mostI) && dle (p.tn i 3) mostI) && dle (p.tn i 4) 18446744073709551615) _ (I.pt 9 [1, 2, 0, 3, 4, 5, 6, 7, 8]) hnc om (x := p.tn i 5) (k2 := p.oT + 1 + (8 * i + 6)) (o2 := (((((p.okT i && dle (p.tn i 0) mostI) && dle (p.tn i 1) mostI) && dle (p.tn i 2) mostI) && dle (p.tn i 3) mostI) && dle (p.tn i 4) 18446744073709551615) && dle (p.tn i 5) 1) (qd5 h (j := 8 * i + 5) om) (rfl) (rfl))) fun w112 => (Jp 1∘Jo (.bool (decide (p.tn i 5 = 1))) (by exact congrArg Value.bool (q7l _))∘Jp 1∘JO (h:=by exact fun I => qdp 18446744073709551615 W _ g (p.oT + 1 + (8 * i + 6)) NA nc p.nums ((((((p.okT i && dle (p.tn i 0) mostI) && dle (p.tn i 1) mostI) && dle (p.tn i 2) mostI) && dle (p.tn i 3) mostI) && dle (p.tn i 4) 18446744073709551615) && dle (p.tn i 5) 1) _ (I.pt 9 [0, 1, 2, 3, 4, 5, 6, 7, 8]) hnc om (x := p.tn i 6) (k2 := p.oT + 1 + (8 * i + 7)) (o2 := ((((((p.okT i && dle (p.tn i 0) mostI) && dle (p.tn i 1) mostI) && dle (p.tn i 2) mostI) && dle (p.tn i 3) mostI) && dle (p.tn i 4) 18446744073709551615) && dle (p.tn i 5) 1) && dle (p.tn i 6) 18446744073709551615) (qd5 h (j := 8 * i + 6) om) (rfl) (rfl))) fun w115 => (Jp 1∘JO (h:=by exact fun I => qdp 4294967295 W _ g (p.oT + 1 + (8 * i + 7)) NA nc p.nums (((((((p.okT i && dle (p.tn i 0) mostI) && dle (p.tn i 1) mostI) && dle (p.tn i 2) mostI) && dle (p.tn i 3) mostI) && dle (p.tn i 4) 18446744073709551615) && dle (p.tn i 5) 1) && dle (p.tn i 6) 18446744073709551615) _ (I.pt 9 [0, 1, 2, 3, 4, 5, 6, 7, 8]) hnc om (x := p.tn i 7) (k2 := p.oT + 1 + 8 * (i + 1)) (o2 := (((((((p.okT i && dle (p.tn i 0) mostI) && dle (p.tn i 1) mostI) && dle (p.tn i 2) mostI) && dle (p.tn i 3) mostI) && dle (p.tn i 4) 18446744073709551615) && dle (p.tn i 5) 1) && dle (p.tn i 6) 18446744073709551615) && dle (p.tn i 7) 4294967295) (qd5 h (j := 8 * i + 7) om) om (rfl))) fun w117 => (Jv 1 [(118, vW (IntKind.u32.wrap (p.tn i 7 : Int)))]∘Jo (vW ((p.tn i 7) % 4294967296 : Nat)) (by exact qv7 (p.tn i 7))∘Jf 5∘JW O2' O5') fun w25_9 => (Jf 6∘JW O2' O6') fun w25_11 => (Jf 7∘JW O2' O7') fun w25_13 => (Jt6∘Jq) fun a Z I => ?_)
  replace I : Mem W _ (.blk g #[.slice (srcA NA nc (p.oT + 1 + 8 * (i + 1))) (p.nums.length - (p.oT + 1 + 8 * (i + 1))) (nc - (p.oT + 1 + 8 * (i + 1))), .bool ((((((((p.okT i && dle (p.tn i 0) mostI) && dle (p.tn i 1) mostI) && dle (p.tn i 2) mostI) && dle (p.tn i 3) mostI) && dle (p.tn i 4) 18446744073709551615) && dle (p.tn i 5) 1) && dle (p.tn i 6) 18446744073709551615) && dle (p.tn i 7) 4294967295)] 132 :: .row (.slice NA p.nums.length nc) p.nums.length (p.nums.map U64) 30 1 :: .blk g8 #[vI (p.idA i), vI (toI (p.tn i 1)), vI (toI (p.tn i 2)), vI (toI (p.tn i 3)), vQ (p.tn i 4), .bool (decide (p.tn i 5 = 1)), vQ (p.tn i 6), vW ((p.tn i 7) % 4294967296 : Nat)] 61 :: .row (.slice At T.length ct) T.length (T.flatMap tkL) 61 8 :: .row (.slice Au U.length cu) U.length (U.map I64i) 3 1 :: .row (.slice Al C.length cl) C.length (C.map I64i) 3 1 :: .row (.slice Ag G.length cg) G.length (G.flatMap grL) 110 2 :: .blk g3 #[vI (toI p.nx), vI p.cp, vQ p.cr, .slice Ag G.length cg, .slice Al C.length cl, .slice Au U.length cu, .slice At T.length ct, vN] 40 :: .blk g2 #[vI 0, vI 0, vQ 0, vN, vN, vN, vN, vN] 40 :: fs) := I
  refine wp_seq ?_
  refine Jb Z I ((Vs (.t (.t (.t (.f .n)))) [10]) fun wd26 => (Vp [0, 1]∘Vn 2∘Vf 3 5∘Vc 4 O6∘Vy 5 (v := .agg #[vI (p.idA i), vI (toI (p.tn i 1)), vI (toI (p.tn i 2)), vI (toI (p.tn i 3)), vQ (p.tn i 4), .bool (decide (p.tn i 5 = 1)), vQ (p.tn i 6), vW ((p.tn i 7) % 4294967296 : Nat)]) (h:=by exact Yl.loadS rfl rfl si_tk rfl (fun _ h => qb (h.blk (i := 2) rfl)))) fun a Z I HS => ?_)
  refine s_on Z 6 rfl (s_el Z I ei_tk [(0, .agg #[vI (p.idA i), vI (toI (p.tn i 1)), vI (toI (p.tn i 2)), vI (toI (p.tn i 3)), vQ (p.tn i 4), .bool (decide (p.tn i 5 = 1)), vQ (p.tn i 6), vW ((p.tn i 7) % 4294967296 : Nat)])] #[vI (p.idA i), vI (toI (p.tn i 1)), vI (toI (p.tn i 2)), vI (toI (p.tn i 3)), vQ (p.tn i 4), .bool (decide (p.tn i 5 = 1)), vQ (p.tn i 6), vW ((p.tn i 7) % 4294967296 : Nat)] ?_)
  clear Z I; intro a w128 g128 Z I
  refine keepS (I.pt 10 [1, 2, 3, 5, 6, 7, 8, 9]) (fun HS => ?_)
  refine s_on Z 7 rfl (qa2 Z I (i := 4) rfl ei_tk rfl rfl rfl (news := ([p.tsk i].flatMap tkL)) (I.rdBlk (i := 0) (n := 1) (size := 8) rfl rfl) (qnr _) om om rfl de ?_)
  clear Z I; intro a w129 A129 c129 Z I hc129
  refine keepS (I.pt 10 [1, 2, 3, 5, 6, 7, 8, 9]) (fun HS => ?_)
  refine Vb Z I HS ((Vn 8∘Vf 9 5) fun a Z I HS => ?_)
  refine s_on Z 10 rfl (s_es Z I 8 ?_)
  clear I; intro w26_10 I
  refine noS kr ?_
  refine qc kr ?_
  have hnA129 : T.length + 1 = (T ++ [p.tsk i]).length := zk rfl
  replace I := I.reRow (i := 4) (ys := (T ++ [p.tsk i]).flatMap tkL) rfl hnA129 (by exact List.flatMap_append.symm)
  rw [hnA129] at hc129
  replace Z := Z.sp 129 (.slice A129 ((T ++ [p.tsk i]).length) c129) rfl (by rw [hnA129])
  replace I := I.reBlk (i := 8) (ds := #[vI (toI p.nx), vI p.cp, vQ p.cr, .slice Ag G.length cg, .slice Al C.length cl, .slice Au U.length cu, .slice A129 ((T ++ [p.tsk i]).length) c129, vN]) rfl (by rw [hnA129]; try rfl)
  refine Jb Z I ((JP∘Jp 2∘Jn∘Jg 1 O1∘Jp 1) (Ju (fun hb137 => ?_) fun hb137 => ?_))
  ·
   refine (Jp 3∘Jn∘Jf 1∘JW O1' O1') fun w27_11 => (Jt6∘Jj∘JR∘Jp 1∘Jy (v := vI (if (65535 : Int) < (p.idA i : Int) then 65535 else p.idA i)) (h:=by exact Yl.min rfl rfl rfl)∘Jo (vI (p.idB (i + 1))) (by exact rfl)∘Jp 1∘Jd6∘Jj∘JR∘JaK 1∘Jp 1∘Jd1∘Jq) fun a Z I => ?_
   replace I := I.reBlk (i := 1) (ds := #[.slice (srcA NA nc (p.oT + 1 + 8 * (i + 1))) (p.nums.length - (p.oT + 1 + 8 * (i + 1))) (nc - (p.oT + 1 + 8 * (i + 1))), .bool (p.okT (i + 1))]) rfl (by rw [show p.okT (i + 1) = (((((((((p.okT i && dle (p.tn i 0) mostI) && dle (p.tn i 1) mostI) && dle (p.tn i 2) mostI) && dle (p.tn i 3) mostI) && dle (p.tn i 4) 18446744073709551615) && dle (p.tn i 5) 1) && dle (p.tn i 6) 18446744073709551615) && dle (p.tn i 7) 4294967295) && decide (p.idA i ≤ 65535)) from rfl, hb137]; rfl)
   exact ⟨_, om, i + 1, (T ++ [p.tsk i]), A129, c129, by omega, by rw [hT, qbb], by rw [List.length_append, hTl]; rfl, hc129, rfl, Z.sub kr, I.pt 10 [4, 1, 2, 5, 6, 7, 8, 9]⟩
  refine (Jp 3∘Jn∘Jf 1∘JW O1' O1') fun w27_11 => (Jt6∘Jj∘JR∘Jp 1∘Jy (v := vI (if (65535 : Int) < (p.idA i : Int) then 65535 else p.idA i)) (h:=by exact Yl.min rfl rfl rfl)∘Jo (vI (p.idB (i + 1))) (by exact rfl)∘Jp 1∘Jd6∘Jj∘JR∘JaK 1∘Jp 1∘Jd1∘Jq) fun a Z I => ?_
  replace I := I.reBlk (i := 1) (ds := #[.slice (srcA NA nc (p.oT + 1 + 8 * (i + 1))) (p.nums.length - (p.oT + 1 + 8 * (i + 1))) (nc - (p.oT + 1 + 8 * (i + 1))), .bool (p.okT (i + 1))]) rfl (by rw [show p.okT (i + 1) = (((((((((p.okT i && dle (p.tn i 0) mostI) && dle (p.tn i 1) mostI) && dle (p.tn i 2) mostI) && dle (p.tn i 3) mostI) && dle (p.tn i 4) 18446744073709551615) && dle (p.tn i 5) 1) && dle (p.tn i 6) 18446744073709551615) && dle (p.tn i 7) 4294967295) && decide (p.idA i ≤ 65535)) from rfl, hb137]; rfl)
  exact ⟨_, om, i + 1, (T ++ [p.tsk i]), A129, c129, by omega, by rw [hT, qbb], by rw [List.length_append, hTl]; rfl, hc129, rfl, Z.sub kr, I.pt 10 [4, 1, 2, 5, 6, 7, 8, 9]⟩
 refine (JF∘JX∘JG∘JQ∘JP∘Jp 1∘Jn∘Jf 0∘Jg 2 O6∘Jl∘Jp 1∘Jq) fun a Z I => ?_
 replace I := I.reBlk (i := 1) (ds := #[.slice (srcA NA nc (p.oS + p.so 0 0)) (p.nums.length - (p.oS + p.so 0 0)) (nc - (p.oS + p.so 0 0)), .bool (p.okS 0)]) rfl (by rw [show i = p.tk by omega]; rfl)
 replace I := I.nil 64 1
 replace I := I.newTail 63 3
 replace I : Mem W _ (.row (vN) 0 [] 64 1 :: .row (.slice At T.length ct) T.length (T.flatMap tkL) 61 8 :: .blk g #[.slice (srcA NA nc (p.oS + p.so 0 0)) (p.nums.length - (p.oS + p.so 0 0)) (nc - (p.oS + p.so 0 0)), .bool (p.okS 0)] 132 :: .row (.slice NA p.nums.length nc) p.nums.length (p.nums.map U64) 30 1 :: .row (.slice Au U.length cu) U.length (U.map I64i) 3 1 :: .row (.slice Al C.length cl) C.length (C.map I64i) 3 1 :: .row (.slice Ag G.length cg) G.length (G.flatMap grL) 110 2 :: .blk g3 #[vI (toI p.nx), vI p.cp, vQ p.cr, .slice Ag G.length cg, .slice Al C.length cl, .slice Au U.length cu, .slice At T.length ct, vN] 40 :: .blk g2 #[vI 0, vI 0, vQ 0, vN, vN, vN, vN, vN] 40 :: (fs ++ (rwF 63 []))) := I
 refine Jb Z I ((JG∘JB) fun a Z I => ?_)
 refine qe (fun mS aS wS => ∃ (y : Nat) (z : List Rw) (As : Option Addr) (cs : Nat), (y ≤ G.length) ∧ (z.length = y) ∧ (z.map Rw.l = mapR y p.row) ∧ (∀ q ∈ z, q.l.length ≤ q.c) ∧ (z.length ≤ cs) ∧ mS = G.length - y ∧ Fr aS 191 [] [(152, vI y), (151, vI G.length), (96, .bool false), (95, vI i), (94, vI p.tk), (7, vI (p.idB i)), (80, .bool false), (79, vI u), (78, vI p.cp), (61, .bool false), (60, vI k), (59, vI p.cp), (31, .bool false), (30, vI j), (29, vI p.gp), (4, vP g3 1), (3, vP g3 0), (2, vP g2 0), (0, vP g 0)] ∧ Mem W wS (.row (.slice As z.length cs) z.length (z.map Rw.val) 64 1 :: .row (.slice At T.length ct) T.length (T.flatMap tkL) 61 8 :: .blk g #[.slice (srcA NA nc (p.oS + p.so y 0)) (p.nums.length - (p.oS + p.so y 0)) (nc - (p.oS + p.so y 0)), .bool (p.okS y)] 132 :: .row (.slice NA p.nums.length nc) p.nums.length (p.nums.map U64) 30 1 :: .row (.slice Au U.length cu) U.length (U.map I64i) 3 1 :: .row (.slice Al C.length cl) C.length (C.map I64i) 3 1 :: .row (.slice Ag G.length cg) G.length (G.flatMap grL) 110 2 :: .blk g3 #[vI (toI p.nx), vI p.cp, vQ p.cr, .slice Ag G.length cg, .slice Al C.length cl, .slice Au U.length cu, .slice At T.length ct, .slice As z.length cs] 40 :: .blk g2 #[vI 0, vI 0, vQ 0, vN, vN, vN, vN, vN] 40 :: (fs ++ (rwF 63 z)))) (m := G.length - 0) ⟨0, [], none, 0, Nat.zero_le _, rfl, rfl, (fun q h => by cases h), Nat.le_refl _, rfl, Z.sub kr, I.pt 9 [0, 1, 2, 3, 4, 5, 6, 7, 8]⟩ ?_
 clear Z I; rintro mS a w_ ⟨y, z, As, cs, hy, hzl, hz, hzc, hcs, rfl, Z, I⟩
 refine Jb Z I ((JP∘Jp 1∘Jj∘JQ) (Ju (fun hb153 => ?_) fun hb153 => ?_))
 ·
  intro a Z I
  have hd153 := of_decide_eq_true hb153
  have hyg : y < p.gp := by omega
  refine Jb Z I ((JT∘JS'∘JQ∘JB∘JP∘Jp 2∘Jd1∘Jr∘Jp 1∘Jq) fun a Z I => ?_)
  replace I := I.nil 63 3
  refine Jb Z I ((JG∘JQ∘JP∘Jp 1∘Jn∘Jf 0∘Jg 0 O8∘Jp 1∘Jj∘JB) fun a Z I => ?_)
  refine qe (fun mS aS wS => ∃ (x : Nat) (R : List Sp) (Ar : Option Addr) (cr : Nat), (x ≤ p.cp) ∧ (R = mapR x (p.spt y)) ∧ (R.length = x) ∧ (R.length ≤ cr) ∧ mS = p.cp - x ∧ Fr aS 191 [] [(160, vI x), (159, vI p.cp), (10, .slice Ar R.length cr), (9, vI y), (153, .bool true), (152, vI y), (151, vI G.length), (96, .bool false), (95, vI i), (94, vI p.tk), (7, vI (p.idB i)), (80, .bool false), (79, vI u), (78, vI p.cp), (61, .bool false), (60, vI k), (59, vI p.cp), (31, .bool false), (30, vI j), (29, vI p.gp), (4, vP g3 1), (3, vP g3 0), (2, vP g2 0), (0, vP g 0)] ∧ Mem W wS (.row (.slice Ar R.length cr) R.length (R.flatMap spL) 63 3 :: .row (.slice As z.length cs) z.length (z.map Rw.val) 64 1 :: .row (.slice At T.length ct) T.length (T.flatMap tkL) 61 8 :: .blk g #[.slice (srcA NA nc (p.oS + p.so y x)) (p.nums.length - (p.oS + p.so y x)) (nc - (p.oS + p.so y x)), .bool (p.okR (p.okS y) y x)] 132 :: .row (.slice NA p.nums.length nc) p.nums.length (p.nums.map U64) 30 1 :: .row (.slice Au U.length cu) U.length (U.map I64i) 3 1 :: .row (.slice Al C.length cl) C.length (C.map I64i) 3 1 :: .row (.slice Ag G.length cg) G.length (G.flatMap grL) 110 2 :: .blk g3 #[vI (toI p.nx), vI p.cp, vQ p.cr, .slice Ag G.length cg, .slice Al C.length cl, .slice Au U.length cu, .slice At T.length ct, .slice As z.length cs] 40 :: .blk g2 #[vI 0, vI 0, vQ 0, vN, vN, vN, vN, vN] 40 :: (fs ++ (rwF 63 z)))) (m := p.cp - 0) ⟨0, [], none, 0, Nat.zero_le _, rfl, rfl, Nat.le_refl _, rfl, Z.sub kr, I.pt 10 [0, 1, 2, 3, 4, 5, 6, 7, 8, 9]⟩ ?_
  clear Z I; rintro mS a w_ ⟨x, R, Ar, cr, hx, hR, hRl, hRc, rfl, Z, I⟩
  refine Jb Z I ((JP∘Jp 1∘Jj∘JQ) (Ju (fun hb161 => ?_) fun hb161 => ?_))
  ·
   intro a Z I
   have hd161 := of_decide_eq_true hb161
   have hxc : x < p.cp := by omega
   have hin := so_in h hyg hxc
   refine Jb Z I ((JT∘JS'∘JQ∘JB∘JP∘JA #[vQ 0, vW 0, vQ 0]) fun w11 g11 => (Jj∘JQ∘JP∘Jp 2∘Jd1∘Jj) (Ju (fun hb163 => ?_) fun hb163 => ?_))
   ·
    intro a Z I
    have hd163 := of_decide_eq_true hb163
    rw [if_neg om] at hin
    have hsp : p.spt y x = ⟨p.sn y x 0, p.sn y x 1 % 4294967296, p.sn y x 2⟩ := if_neg om
    refine Jb Z I ((JT∘JR∘Jp 1∘JO (h:=by exact fun I => qdp 18446744073709551615 W _ g (p.oS + p.so y x) NA nc p.nums (p.okR (p.okS y) y x) _ (I.pt 11 [4, 5, 0, 1, 2, 3, 6, 7, 8, 9, 10]) hnc om (x := p.sn y x 0) (k2 := p.oS + (p.so y x + 1)) (o2 := p.okR (p.okS y) y x && dle (p.sn y x 0) 18446744073709551615) (qmk h (p.so y x)) (rfl) (rfl))) fun w165 => (Jp 1∘JO (h:=by exact fun I => qdp 4294967295 W _ g (p.oS + (p.so y x + 1)) NA nc p.nums (p.okR (p.okS y) y x && dle (p.sn y x 0) 18446744073709551615) _ (I.pt 11 [0, 1, 2, 3, 4, 5, 6, 7, 8, 9, 10]) hnc om (x := p.sn y x 1) (k2 := p.oS + (p.so y x + 2)) (o2 := (p.okR (p.okS y) y x && dle (p.sn y x 0) 18446744073709551615) && dle (p.sn y x 1) 4294967295) (qmk h (p.so y x + 1)) (rfl) (rfl))) fun w167 => (Jv 1 [(168, vW (IntKind.u32.wrap (p.sn y x 1 : Int)))]∘Jo (vW ((p.sn y x 1) % 4294967296 : Nat)) (by exact qv7 (p.sn y x 1))∘Jf 0∘JW O2' O0') fun w38_6 => (Jf 1∘JW O2' O1') fun w38_8 => (Jt6∘Jq) fun a Z I => ?_)
    replace I : Mem W _ (.blk g #[.slice (srcA NA nc (p.oS + (p.so y x + 2))) (p.nums.length - (p.oS + (p.so y x + 2))) (nc - (p.oS + (p.so y x + 2))), .bool ((p.okR (p.okS y) y x && dle (p.sn y x 0) 18446744073709551615) && dle (p.sn y x 1) 4294967295)] 132 :: .row (.slice NA p.nums.length nc) p.nums.length (p.nums.map U64) 30 1 :: .blk g11 #[vQ (p.sn y x 0), vW ((p.sn y x 1) % 4294967296 : Nat), vQ 0] 63 :: .row (.slice Ar R.length cr) R.length (R.flatMap spL) 63 3 :: .row (.slice As z.length cs) z.length (z.map Rw.val) 64 1 :: .row (.slice At T.length ct) T.length (T.flatMap tkL) 61 8 :: .row (.slice Au U.length cu) U.length (U.map I64i) 3 1 :: .row (.slice Al C.length cl) C.length (C.map I64i) 3 1 :: .row (.slice Ag G.length cg) G.length (G.flatMap grL) 110 2 :: .blk g3 #[vI (toI p.nx), vI p.cp, vQ p.cr, .slice Ag G.length cg, .slice Al C.length cl, .slice Au U.length cu, .slice At T.length ct, .slice As z.length cs] 40 :: .blk g2 #[vI 0, vI 0, vQ 0, vN, vN, vN, vN, vN] 40 :: (fs ++ (rwF 63 z))) := I
    refine Jb Z I ((JG∘JP∘Jp 1∘JO (h:=by exact fun I => qdp 18446744073709551615 W _ g (p.oS + (p.so y x + 2)) NA nc p.nums ((p.okR (p.okS y) y x && dle (p.sn y x 0) 18446744073709551615) && dle (p.sn y x 1) 4294967295) _ (I.pt 11 [0, 1, 2, 3, 4, 5, 6, 7, 8, 9, 10]) hnc om (x := p.sn y x 2) (k2 := p.oS + p.so y (x + 1)) (o2 := p.okR (p.okS y) y (x + 1)) (qmk h (p.so y x + 2)) (by rw [so_s3 om]; rfl) ((okR_p om).symm))) fun w172 => (Jf 2∘JW O2' O2') fun w39_3 => (Jt4∘Jq) fun a Z I => ?_)
    replace I : Mem W _ (.blk g #[.slice (srcA NA nc (p.oS + p.so y (x + 1))) (p.nums.length - (p.oS + p.so y (x + 1))) (nc - (p.oS + p.so y (x + 1))), .bool (p.okR (p.okS y) y (x + 1))] 132 :: .row (.slice NA p.nums.length nc) p.nums.length (p.nums.map U64) 30 1 :: .blk g11 #[vQ (p.sn y x 0), vW ((p.sn y x 1) % 4294967296 : Nat), vQ (p.sn y x 2)] 63 :: .row (.slice Ar R.length cr) R.length (R.flatMap spL) 63 3 :: .row (.slice As z.length cs) z.length (z.map Rw.val) 64 1 :: .row (.slice At T.length ct) T.length (T.flatMap tkL) 61 8 :: .row (.slice Au U.length cu) U.length (U.map I64i) 3 1 :: .row (.slice Al C.length cl) C.length (C.map I64i) 3 1 :: .row (.slice Ag G.length cg) G.length (G.flatMap grL) 110 2 :: .blk g3 #[vI (toI p.nx), vI p.cp, vQ p.cr, .slice Ag G.length cg, .slice Al C.length cl, .slice Au U.length cu, .slice At T.length ct, .slice As z.length cs] 40 :: .blk g2 #[vI 0, vI 0, vQ 0, vN, vN, vN, vN, vN] 40 :: (fs ++ (rwF 63 z))) := I
    refine Jb Z I ((JG∘JR∘Jp 1∘Jy (v := .agg #[vQ (p.sn y x 0), vW ((p.sn y x 1) % 4294967296 : Nat), vQ (p.sn y x 2)]) (h:=by exact Yl.loadS rfl rfl si_sp rfl (fun _ h => qb (h.blk (i := 2) rfl)))∘JU ei_sp #[vQ (p.sn y x 0), vW ((p.sn y x 1) % 4294967296 : Nat), vQ (p.sn y x 2)]) fun w176 g176 => (JD ([(⟨p.sn y x 0, p.sn y x 1 % 4294967296, p.sn y x 2⟩ : Sp)].flatMap spL) 4 (fun _ _ => O4') ei_sp (hr:=by exact fun I => I.rdBlk (i := 0) (n := 1) (size := 3) rfl rfl) (h1:=by exact qxh _)) fun w177 A177 c177 hc177 => (Jp 1∘Jd4∘Jq) fun a Z I => ?_)
    have hnA177 : R.length + 1 = (R ++ [p.spt y x]).length := zk rfl
    replace I := I.reRow (i := 4) (ys := (R ++ [p.spt y x]).flatMap spL) rfl hnA177 (by rw [hsp]; exact List.flatMap_append.symm)
    rw [hnA177] at hc177
    replace Z := Z.sp 10 (.slice A177 ((R ++ [p.spt y x]).length) c177) rfl (by rw [hnA177])
    refine Jb Z I ((JG∘JR∘JaK 1∘Jp 1∘Jd1∘Jq) fun a Z I => ?_)
    exact ⟨_, om, x + 1, (R ++ [p.spt y x]), A177, c177, by omega, by rw [hR, qbb], by rw [List.length_append, hRl]; rfl, hc177, rfl, Z.sub kr, I.pt 12 [4, 5, 6, 1, 2, 7, 8, 9, 10, 11]⟩
   intro a Z I
   have hd163 := of_decide_eq_false hb163
   rw [if_pos om] at hin
   have hsp : p.spt y x = ⟨0, 0, p.sn y x 0⟩ := if_pos om
   refine Jb Z I ((JF∘JS'∘JP∘Jp 1∘JO (h:=by exact fun I => qdp 18446744073709551615 W _ g (p.oS + p.so y x) NA nc p.nums (p.okR (p.okS y) y x) _ (I.pt 11 [4, 5, 0, 1, 2, 3, 6, 7, 8, 9, 10]) hnc om (x := p.sn y x 0) (k2 := p.oS + p.so y (x + 1)) (o2 := p.okR (p.okS y) y (x + 1)) (qmk h (p.so y x)) (by rw [so_s0 om]; rfl) ((okR_z om).symm))) fun w172 => (Jf 2∘JW O2' O2') fun w39_3 => (Jt3∘Jq) fun a Z I => ?_)
   replace I : Mem W _ (.blk g #[.slice (srcA NA nc (p.oS + p.so y (x + 1))) (p.nums.length - (p.oS + p.so y (x + 1))) (nc - (p.oS + p.so y (x + 1))), .bool (p.okR (p.okS y) y (x + 1))] 132 :: .row (.slice NA p.nums.length nc) p.nums.length (p.nums.map U64) 30 1 :: .blk g11 #[vQ 0, vW 0, vQ (p.sn y x 0)] 63 :: .row (.slice Ar R.length cr) R.length (R.flatMap spL) 63 3 :: .row (.slice As z.length cs) z.length (z.map Rw.val) 64 1 :: .row (.slice At T.length ct) T.length (T.flatMap tkL) 61 8 :: .row (.slice Au U.length cu) U.length (U.map I64i) 3 1 :: .row (.slice Al C.length cl) C.length (C.map I64i) 3 1 :: .row (.slice Ag G.length cg) G.length (G.flatMap grL) 110 2 :: .blk g3 #[vI (toI p.nx), vI p.cp, vQ p.cr, .slice Ag G.length cg, .slice Al C.length cl, .slice Au U.length cu, .slice At T.length ct, .slice As z.length cs] 40 :: .blk g2 #[vI 0, vI 0, vQ 0, vN, vN, vN, vN, vN] 40 :: (fs ++ (rwF 63 z))) := I
   refine Jb Z I ((JG∘JR∘Jp 1∘Jy (v := .agg #[vQ 0, vW 0, vQ (p.sn y x 0)]) (h:=by exact Yl.loadS rfl rfl si_sp rfl (fun _ h => qb (h.blk (i := 2) rfl)))∘JU ei_sp #[vQ 0, vW 0, vQ (p.sn y x 0)]) fun w176 g176 => (JD ([(⟨0, 0, p.sn y x 0⟩ : Sp)].flatMap spL) 4 (fun _ _ => O4') ei_sp (hr:=by exact fun I => I.rdBlk (i := 0) (n := 1) (size := 3) rfl rfl) (h1:=by exact qxh _)) fun w177 A177 c177 hc177 => (Jp 1∘Jd4∘Jq) fun a Z I => ?_)
   have hnA177 : R.length + 1 = (R ++ [p.spt y x]).length := zk rfl
   replace I := I.reRow (i := 4) (ys := (R ++ [p.spt y x]).flatMap spL) rfl hnA177 (by rw [hsp]; exact List.flatMap_append.symm)
   rw [hnA177] at hc177
   replace Z := Z.sp 10 (.slice A177 ((R ++ [p.spt y x]).length) c177) rfl (by rw [hnA177])
   refine Jb Z I ((JG∘JR∘JaK 1∘Jp 1∘Jd1∘Jq) fun a Z I => ?_)
   exact ⟨_, om, x + 1, (R ++ [p.spt y x]), A177, c177, by omega, by rw [hR, qbb], by rw [List.length_append, hRl]; rfl, hc177, rfl, Z.sub kr, I.pt 12 [4, 5, 6, 1, 2, 7, 8, 9, 10, 11]⟩
  intro a Z I
  have hd161 := of_decide_eq_false hb161
  refine Jb Z I ((JF∘JX∘JG∘JR∘Jp 2∘Jn∘Jg 6 O8∘Jp 1∘JU ei_rw #[.slice Ar R.length cr]) fun w185 g185 => (JD ([(⟨Ar, cr, R⟩ : Rw)].map Rw.val) 2 (fun _ _ => O2') ei_rw (hr:=by exact fun I => I.rdBlk (i := 0) (n := 1) (size := 1) rfl rfl) (h1:=by exact q4k _)) fun w186 A186 c186 hc186 => (Jn∘Jf 6∘JW O9' O7') fun w42_10 => (Jt6∘Jq) fun a Z I => ?_)
  have hnA186 : z.length + 1 = (z ++ [(⟨Ar, cr, R⟩ : Rw)]).length := zk rfl
  replace I := I.reRow (i := 2) (ys := (z ++ [(⟨Ar, cr, R⟩ : Rw)]).map Rw.val) rfl hnA186 (by exact List.map_append.symm)
  rw [hnA186] at hc186
  replace I := I.reBlk (i := 9) (ds := #[vI (toI p.nx), vI p.cp, vQ p.cr, .slice Ag G.length cg, .slice Al C.length cl, .slice Au U.length cu, .slice At T.length ct, .slice A186 ((z ++ [(⟨Ar, cr, R⟩ : Rw)]).length) c186]) rfl (by rw [hnA186]; try rfl)
  replace I := I.pt (fs' := (.row (.slice Ar R.length cr) R.length (R.flatMap spL) 63 3 :: .row (.slice A186 ((z ++ [(⟨Ar, cr, R⟩ : Rw)]).length) c186) ((z ++ [(⟨Ar, cr, R⟩ : Rw)]).length) ((z ++ [(⟨Ar, cr, R⟩ : Rw)]).map Rw.val) 64 1 :: .row (.slice At T.length ct) T.length (T.flatMap tkL) 61 8 :: .blk g #[.slice (srcA NA nc (p.oS + p.so y x)) (p.nums.length - (p.oS + p.so y x)) (nc - (p.oS + p.so y x)), .bool (p.okR (p.okS y) y x)] 132 :: .row (.slice NA p.nums.length nc) p.nums.length (p.nums.map U64) 30 1 :: .row (.slice Au U.length cu) U.length (U.map I64i) 3 1 :: .row (.slice Al C.length cl) C.length (C.map I64i) 3 1 :: .row (.slice Ag G.length cg) G.length (G.flatMap grL) 110 2 :: .blk g3 #[vI (toI p.nx), vI p.cp, vQ p.cr, .slice Ag G.length cg, .slice Al C.length cl, .slice Au U.length cu, .slice At T.length ct, .slice A186 ((z ++ [(⟨Ar, cr, R⟩ : Rw)]).length) c186] 40 :: .blk g2 #[vI 0, vI 0, vQ 0, vN, vN, vN, vN, vN] 40 :: (fs ++ (rwF 63 z)))) 11 [1, 2, 3, 4, 5, 6, 7, 8, 9, 10]
  replace I := Mem.toRw (fs := (.row (.slice A186 ((z ++ [(⟨Ar, cr, R⟩ : Rw)]).length) c186) ((z ++ [(⟨Ar, cr, R⟩ : Rw)]).length) ((z ++ [(⟨Ar, cr, R⟩ : Rw)]).map Rw.val) 64 1 :: .row (.slice At T.length ct) T.length (T.flatMap tkL) 61 8 :: .blk g #[.slice (srcA NA nc (p.oS + p.so y x)) (p.nums.length - (p.oS + p.so y x)) (nc - (p.oS + p.so y x)), .bool (p.okR (p.okS y) y x)] 132 :: .row (.slice NA p.nums.length nc) p.nums.length (p.nums.map U64) 30 1 :: .row (.slice Au U.length cu) U.length (U.map I64i) 3 1 :: .row (.slice Al C.length cl) C.length (C.map I64i) 3 1 :: .row (.slice Ag G.length cg) G.length (G.flatMap grL) 110 2 :: .blk g3 #[vI (toI p.nx), vI p.cp, vQ p.cr, .slice Ag G.length cg, .slice Al C.length cl, .slice Au U.length cu, .slice At T.length ct, .slice A186 ((z ++ [(⟨Ar, cr, R⟩ : Rw)]).length) c186] 40 :: .blk g2 #[vI 0, vI 0, vQ 0, vN, vN, vN, vN, vN] 40 :: fs)) I
  replace I : Mem W _ (.row (.slice A186 ((z ++ [(⟨Ar, cr, R⟩ : Rw)]).length) c186) ((z ++ [(⟨Ar, cr, R⟩ : Rw)]).length) ((z ++ [(⟨Ar, cr, R⟩ : Rw)]).map Rw.val) 64 1 :: .row (.slice At T.length ct) T.length (T.flatMap tkL) 61 8 :: .blk g #[.slice (srcA NA nc (p.oS + p.so y x)) (p.nums.length - (p.oS + p.so y x)) (nc - (p.oS + p.so y x)), .bool (p.okR (p.okS y) y x)] 132 :: .row (.slice NA p.nums.length nc) p.nums.length (p.nums.map U64) 30 1 :: .row (.slice Au U.length cu) U.length (U.map I64i) 3 1 :: .row (.slice Al C.length cl) C.length (C.map I64i) 3 1 :: .row (.slice Ag G.length cg) G.length (G.flatMap grL) 110 2 :: .blk g3 #[vI (toI p.nx), vI p.cp, vQ p.cr, .slice Ag G.length cg, .slice Al C.length cl, .slice Au U.length cu, .slice At T.length ct, .slice A186 ((z ++ [(⟨Ar, cr, R⟩ : Rw)]).length) c186] 40 :: .blk g2 #[vI 0, vI 0, vQ 0, vN, vN, vN, vN, vN] 40 :: (fs ++ (rwF 63 (z ++ [(⟨Ar, cr, R⟩ : Rw)])))) := I
  refine Jb Z I ((JG∘JR∘JaK 1∘Jp 1∘Jd4∘Jq) fun a Z I => ?_)
  replace I := I.reBlk (i := 2) (ds := #[.slice (srcA NA nc (p.oS + p.so (y + 1) 0)) (p.nums.length - (p.oS + p.so (y + 1) 0)) (nc - (p.oS + p.so (y + 1) 0)), .bool (p.okS (y + 1))]) rfl (by rw [q7c, show x = p.cp by omega]; rfl)
  exact ⟨_, om, y + 1, (z ++ [(⟨Ar, cr, R⟩ : Rw)]), A186, c186, by omega, by rw [List.length_append, hzl]; rfl, by rw [List.map_append, hz, qbb, hR, show x = p.cp by omega]; rfl, fun q h => (List.mem_append.1 h).elim (hzc q) (fun h => by rw [List.mem_singleton] at h; subst h; exact hRc), hc186, rfl, Z.sub kr, I.pt 9 [0, 1, 2, 3, 4, 5, 6, 7, 8]⟩
 intro a Z I
 have hd153 := of_decide_eq_false hb153
 have e0 : y = p.gp := by omega
 have e1 : mapR p.gp p.grp = G := by rw [hG, show j = p.gp by omega]
 have e2 : p.cl.map toI = C := by rw [hC, show k = p.cp by omega]; exact (qoy h.cl toI).symm
 have e3 : p.cu.map toI = U := by rw [hU, show u = p.cp by omega]; exact (qoy h.cu toI).symm
 have e4 : mapR p.tk p.tsk = T := by rw [hT, show i = p.tk by omega]
 have e5 : (mapR p.gp fun g => (⟨none, 0, p.row g⟩ : Rw)).map Rw.l = z.map Rw.l := by rw [hz, e0]; exact q3h _ _ _
 refine Jb Z I ((JF∘JX∘JG∘JP∘Jy (v := .agg #[vI (toI p.nx), vI p.cp, vQ p.cr, .slice Ag G.length cg, .slice Al C.length cl, .slice Au U.length cu, .slice At T.length ct, .slice As z.length cs]) (h:=by exact Yl.loadS rfl rfl zb rfl (fun _ h => qb (h.blk (i := 7) rfl)))∘JV zb O8') fun w44_1 => (Jt1∘Jq) fun a Z I => ?_)
 replace I := I.reBlk (i := 2) (ds := #[.slice (srcA NA nc (p.oS + p.so p.gp 0)) (p.nums.length - (p.oS + p.so p.gp 0)) (nc - (p.oS + p.so p.gp 0)), .bool p.okB]) rfl (by rw [e0]; try rfl)
 refine Jb Z I ((JG∘JZ) fun a Z I => ?_)
 exact ret1 rfl Z (.cellS (i := 8) Z I rfl rfl zb rfl) (⟨(⟨toI p.nx, ⟨(p.cp : Int), p.cr, Ag, cg, G, Al, cl, C, Au, cu, U, At, ct, T, As, cs, z⟩⟩ : Snm), _, _, _, rfl, sn_of rfl ⟨⟨rfl, rfl, e1⟩, e2, e3, e4, e5⟩, ⟨hGc, hCc, hUc, hTc, hcs, hzc⟩, Mem.zah (I.pt 9 [2, 6, 5, 4, 1, 0])⟩)
theorem qvo (A : Option Addr) (n c : Nat) (l : List Nat) (D : Option Addr) (k c2 : Nat) (m : List Nat) (w : World) (hr : Rd w w.heap.size 1 A n (l.map B8)) (hr2 : Rd w w.heap.size 1 D k (m.map B8)) (hl : ∀ z ∈ l, z < 256) (hm : ∀ z ∈ m, z < 256) :
    Calls Tryz.prog 59 #[.slice A n c, .slice D k c2] w (Is w (.bool (decide (l = m)))) := by
 refine (JN2 Tryz.func59 10) ?_
 exact (JP∘Jp 1∘Jr∘Jp 1∘Jy (h:=by exact Yl.str rfl rfl (fun _ h => h.old hr))∘Jp 1∘Jy (h:=by exact Yl.str rfl rfl (fun _ h => h.old hr2))∘Jp 1∘Jo (.bool (decide (l = m))) (by rw [q5f hl hm])∘Jp 1∘Jd5∘Jj∘JZ) JY1
theorem qo4 (A : Option Addr) (c : Nat) (l : List Nat) (B : Nat) (w : World) (hL : LaidX B w) (hB : B ≤ w.heap.size) (hr : Rd w w.heap.size 1 A l.length (l.map B8)) (hc : l.length ≤ c) (hn : l.length ≤ 100000000) (hl : ∀ z ∈ l, z < 256) :
    Calls Tryz.prog 27 #[.slice A l.length c] w (qsx w (rdE l) (rdS l)) := by
 refine (JN1 Tryz.func27 37) ?_
 refine (JP∘JA #[vI 0, vI 0, vQ 0, vN, vN, vN, vN, vN]) fun w2 g2 => (Jp 1∘Jj∘JQ) fun a Z I => ?_
 rcases hop : opnR l with k | p
 ·
  have hke := qgz hop
  refine Jb Z I ((JR∘Jp 1∘JI (h:=by exact fun I => qqv A c l B _ (hL.mem I hB) (I.le hB) (I.old hr) hc hn hl hop)) fun w10 hbw => (Jp 1∘Jx∘Jx∘Jp 2∘Jj∘JQ∘JP∘Jp 2∘Jd1∘Jj) (Ju (fun hb14 => ?_) fun hb14 => ?_))
  ·
   intro a Z I
   have hd14 := bne_iff_ne.1 hb14
   refine Jb Z I ((JT∘JP∘Jy (v := .agg #[vI 0, vI 0, vQ 0, vN, vN, vN, vN, vN]) (h:=by exact Yl.build (vs := []) rfl kr kr)∘Jp 1∘JV zb O0') fun w3_2 => (Jp 1∘Jd2∘Jj∘JZ) fun a Z I => ?_)
   exact ret2 rfl Z (.cellS (i := 0) Z I rfl rfl zb rfl) (.tmp Z rfl) (qe5 (rd_no hop) rfl (I.pk []))
  intro a Z I
  have hd14 := bne_eq_false_iff_eq.1 hb14
  exfalso; omega
 ·
  have hfit := (qzv hl hop).2.2.1
  refine Jb Z I ((JR∘Jp 1∘JL (h:=by exact fun I => qqu A c l B _ (hL.mem I hB) (I.le hB) (I.old hr) hc hn hl hop)) ?_)
  rintro I _ w10 ⟨g10, iv, av, NA, nc, SA, sc, rfl, hnc, hsc, hm⟩
  refine ⟨_, rfl, _, I.join hm, ?_⟩
  refine (Jp 1∘Jx∘Jx∘Jp 2∘Jj∘JQ∘JP∘Jv 2 [(14, .bool false)]∘Jj∘JF∘JS'∘JP∘Jp 1∘Jn∘Jg 2 O0∘Jy (v := .agg #[.slice NA p.nums.length nc, .bool true]) (h:=by exact Yl.build (vs := [(0, .slice NA p.nums.length nc), (1, .bool true)]) rfl kr kr)∘JE) fun w22 g22 => (Jp 1∘Jd5∘Jr∘Jp 1∘JL (h:=by exact fun I => qvn _ _ g22 NA nc p hfit [.blk g2 #[vI 0, vI 0, vQ 0, vN, vN, vN, vN, vN] 40] (I.pk [0, 2, 4]) hnc)) ?_
  rintro I _ w24 ⟨z, SA2, n2, c2, rfl, hz, hcap, HM2⟩
  refine ⟨_, rfl, _, HM2, ?_⟩
  refine (JA #[vI 0, vI 0, vQ 0, vN, vN, vN, vN, vN]) fun w7 g7 => (JV zb O0' (h1:=by exact qd0 z)) fun w5_3 => (Jd2∘Jj∘JQ∘JP∘Jp 1∘Jn∘Jg 1 O1∘Jp 2) (Ju (fun hb30 => ?_) fun hb30 => ?_)
  ·
   refine (Jp 4∘Jd6∘Jj∘JT∘JP∘Jy (v := .agg #[vI 0, vI 0, vQ 0, vN, vN, vN, vN, vN]) (h:=by exact Yl.build (vs := []) rfl kr kr)∘JV zb O2') fun w7_1 => (Jp 1∘Jd1∘Jj∘JZ) fun a Z I => ?_
   exact ret2 rfl Z (.cellS (i := 2) Z I rfl rfl zb rfl) (.tmp Z rfl) (qe5 (qsw hop (fun h => by rw [h.1] at hb30; cases hb30)) rfl (I.pk []))
  refine (Jy (v := .agg z.cells) (h:=by exact Yl.loadS rfl rfl zb rfl (fun _ h => qb (h.blk (i := 0) rfl)))∘JI (h:=by exact fun I => qkz z (q9s hz (q9o hfit)) (q8z (qxi hz) (q9p hfit _ (.inl rfl))) hcap _ (I.stX 3 rfl))) fun w32 hbw => (Jp 2∘Jd6∘Jj) (Jh (fun hd34 => ?_) fun hd34 => ?_)
  ·
   refine (JT∘JP∘Jy (v := .agg #[vI 0, vI 0, vQ 0, vN, vN, vN, vN, vN]) (h:=by exact Yl.build (vs := []) rfl kr kr)∘JV zb O2') fun w7_1 => (Jp 1∘Jd1∘Jj∘JZ) fun a Z I => ?_
   exact ret2 rfl Z (.cellS (i := 2) Z I rfl rfl zb rfl) (.tmp Z rfl) (qe5 (qsw hop (fun h => by have h2 := h.2; rw [← qxj hz] at h2; omega)) rfl (I.pk []))
  refine (JF∘JS'∘JP∘Jy (v := .agg z.cells) (h:=by exact Yl.loadS rfl rfl zb rfl (fun _ h => qb (h.blk (i := 0) rfl)))∘JV zb O2' (h1:=by exact qd0 z)) fun w8_1 => (Jp 1∘Jd1∘Jj∘JZ) fun a Z I => ?_
  exact ret2 rfl Z (.cellS (i := 2) Z I rfl rfl zb rfl) (.tmp Z rfl) (qzx (q9q hop ⟨by simpa using hb30, by rw [← qxj hz]; omega⟩) rfl hz hcap (I.subl (List.sublist_append_right ([.blk g7 z.cells 40, .blk g22 #[.slice SA2 n2 c2, .bool p.okB] 132, .blk g2 z.cells 40] : List Fact) _)))
theorem qhg (A : Option Addr) (c : Nat) (l : List Nat) (B : Nat) (w : World) (hL : LaidX B w) (hB : B ≤ w.heap.size) (hr : Rd w w.heap.size 1 A l.length (l.map B8)) (hc : l.length ≤ c) (hn : l.length ≤ 100000000) (hl : ∀ z ∈ l, z < 256) {p : Pr} (h : opnR l = .ok p) : Calls Tryz.prog 29 #[.slice A l.length c] w (qip 69 w 0 p.secs) := by
 have := qdr A c l B w hL hB hr hc hn hl
 rwa [qg0 h, qsn h] at this
theorem qhh (A : Option Addr) (c : Nat) (l : List Nat) (B : Nat) (w : World) (hL : LaidX B w) (hB : B ≤ w.heap.size) (hr : Rd w w.heap.size 1 A l.length (l.map B8)) (hc : l.length ≤ c) (hn : l.length ≤ 100000000) (hl : ∀ z ∈ l, z < 256) {k : Nat} (h : opnR l = .error k) : Calls Tryz.prog 29 #[.slice A l.length c] w (qip 69 w k []) := by
 have := qdr A c l B w hL hB hr hc hn hl
 rwa [qe2 h, qso h] at this
theorem qhv {w w' : World} {a b : List Nat} {k : Nat} {s : ByteArray} {r : Ending} (h : difE a b = k ∧ difN a b = s) (hr : r = .returned (.tuple #[.string s, vI k])) (hb : Below w.heap.size w w') : Is w (.tuple #[.string (difN a b), vI (difE a b : Int)]) r w' := by
 obtain ⟨h1, h2⟩ := h
 rw [h1, h2]
 exact ⟨hr, hb⟩
theorem qo5 (A : Option Addr) (c : Nat) (la : List Nat) (D : Option Addr) (d : Nat) (lb : List Nat) (B : Nat) (w : World) (hL : LaidX B w) (hB : B ≤ w.heap.size) (hr1 : Rd w w.heap.size 1 A la.length (la.map B8)) (hc1 : la.length ≤ c) (hn1 : la.length ≤ 100000000) (hl1 : ∀ z ∈ la, z < 256) (hr2 : Rd w w.heap.size 1 D lb.length (lb.map B8)) (hc2 : lb.length ≤ d) (hn2 : lb.length ≤ 100000000) (hl2 : ∀ z ∈ lb, z < 256) :
    Calls Tryz.prog 31 #[.slice A la.length c, .slice D lb.length d] w (Is w (.tuple #[.string (difN la lb), vI (difE la lb : Int)])) := by
 refine (JN2 Tryz.func31 63) ?_
 refine (JP∘Jp 2∘Jj∘JQ) fun a Z I => ?_
 rcases hoa : opnR la with k | p
 ·
  have hke := qgz hoa
  refine Jb Z I ((JR∘Jp 1∘JK (h:=by exact fun I => qhh A c la B _ (hL.mem I hB) (I.le hB) (I.old hr1) hc1 hn1 hl1 hoa)) fun X12 c12 w12 hc12 => (Jp 1∘Jx∘Jx∘Jp 2∘Jj∘JQ∘JP∘Jp 2∘Jd1∘Jj) (Ju (fun hb16 => ?_) fun hb16 => ?_))
  ·
   intro a Z I
   have hd16 := bne_iff_ne.1 hb16
   exact Jb Z I ((JT∘JP∘Jp 3∘Jj∘JZ∘Jz2) fun I => qhv (q7f hoa) rfl I.below)
  intro a Z I
  have hd16 := bne_eq_false_iff_eq.1 hb16
  exfalso; omega
 ·
  have hsa := qmn p
  refine Jb Z I ((JR∘Jp 1∘JK (h:=by exact fun I => qhg A c la B _ (hL.mem I hB) (I.le hB) (I.old hr1) hc1 hn1 hl1 hoa)) fun X12 c12 w12 hc12 => (Jp 1∘Jx∘Jx∘Jp 2∘Jj∘JQ∘JP∘Jv 2 [(16, .bool false)]∘Jj∘JF∘JS'∘JQ) fun a Z I => ?_)
  rcases hob : opnR lb with k | q
  ·
   have hke := qgz hob
   refine Jb Z I ((JR∘Jp 1∘JK (h:=by exact fun I => qhh D d lb B _ (hL.mem I hB) (I.le hB) (I.old hr2) hc2 hn2 hl2 hob)) fun X20 c20 w20 hc20 => (Jp 1∘Jx∘Jx∘Jp 2∘Jj∘JQ∘JP∘Jp 2∘Jd1∘Jj) (Ju (fun hb24 => ?_) fun hb24 => ?_))
   ·
    intro a Z I
    have hd24 := bne_iff_ne.1 hb24
    exact Jb Z I ((JT∘JP∘Jp 3∘Jj∘JZ∘Jz2) fun I => qhv (q7g hoa hob) rfl I.below)
   intro a Z I
   have hd24 := bne_eq_false_iff_eq.1 hb24
   exfalso; omega
  ·
   have hsb := qmn q
   refine Jb Z I ((JR∘Jp 1∘JK (h:=by exact fun I => qhg D d lb B _ (hL.mem I hB) (I.le hB) (I.old hr2) hc2 hn2 hl2 hob)) fun X20 c20 w20 hc20 => (Jp 1∘Jx∘Jx∘Jp 2∘Jj∘JQ∘JP∘Jv 2 [(24, .bool false)]∘Jj∘JF∘JS'∘JQ∘JP∘Jp 1∘Jl∘Jp 1∘Jj∘JB) fun a Z I => ?_)
   refine qe (fun mS aS wS => ∃ (i : Nat), (i ≤ 9) ∧ (difE la lb = 0 ∧ difN la lb = difF la lb p.secs q.secs (9 - i) i) ∧ mS = 9 - i ∧ Fr aS 63 [] [(28, vI i), (27, vI p.secs.length), (24, .bool false), (7, vI 0), (8, .slice X20 q.secs.length c20), (16, .bool false), (6, .slice X12 p.secs.length c12), (5, vI 0), (4, .string (ByteArray.mk #[])), (0, .slice A la.length c), (1, .slice D lb.length d)] ∧ Mem w wS [.row (.slice X20 q.secs.length c20) q.secs.length (q.secs.flatMap secL) 69 3, .row (.slice X12 p.secs.length c12) p.secs.length (p.secs.flatMap secL) 69 3]) (m := 9 - 0) ⟨0, Nat.zero_le _, q9r hoa hob, rfl, Z.sub kr, I.pk [0, 1]⟩ ?_
   clear Z I; rintro mS a w_ ⟨i, hi, hd, rfl, Z, I⟩
   refine Jb Z I ((JP∘Jp 1∘Jj∘JQ) (Ju (fun hb29 => ?_) fun hb29 => ?_))
   ·
    intro a Z I
    have hd29 := of_decide_eq_true hb29
    have ha1 := q4x hl1 hoa (i := i) om
    have hb1 := q4x hl2 hob (i := i) om
    refine Jb Z I ((JT∘JS'∘JQ∘JB∘JP∘Jp 2∘Jd1∘Jj) fun a Z I => ?_)
    refine wp_seq ?_
    refine Jb Z I ((Vs .n []) fun wd10 => (Vp [0, 1, 2, 6, 7, 12, 13, 14, 18, 19]) ?_)
    repeat (first | clear Z | clear I | clear HS)
    intro a Z I HS
    obtain ⟨gX12, rfl⟩ := qm (I.own (i := 1) rfl) (Nat.lt_of_le_of_lt (Nat.zero_le _) (show i < p.secs.length from by omega))
    refine Vb Z I HS ((Vy 3 (h:=by exact Yl.ix0 gX12 i 3 rfl rfl rfl)∘Vf 4 1∘Vy 5 (v := vI ((p.secs.getD i Sec.zero).fr)) (h:=by exact Yl.qs rfl rfl kr (fun _ h => h.qv qec (i := 1) rfl (k := i) (off := 1) (x := (p.secs.getD i Sec.zero)) ((getD_at Sec.zero (k := i) (by first | omega | (simp; omega)))) rfl))∘Vy 8 (h:=by exact Yl.ix0 gX12 i 3 rfl rfl rfl)∘Vf 9 2∘Vy 10 (v := vI ((p.secs.getD i Sec.zero).to)) (h:=by exact Yl.qs rfl rfl kr (fun _ h => h.qv qec (i := 1) rfl (k := i) (off := 2) (x := (p.secs.getD i Sec.zero)) ((getD_at Sec.zero (k := i) (by first | omega | (simp; omega)))) rfl))∘Vy 11 (v := .slice (if c = (p.secs.getD i Sec.zero).fr then A else A.map (·.add (((p.secs.getD i Sec.zero).fr) * 1))) (((p.secs.getD i Sec.zero).to) - ((p.secs.getD i Sec.zero).fr)) (c - ((p.secs.getD i Sec.zero).fr))) (h:=by exact Yl.q0o ei_u8 (i := (p.secs.getD i Sec.zero).fr) (j := (p.secs.getD i Sec.zero).to) rfl rfl rfl rfl om om)) ?_)
    repeat (first | clear Z | clear I | clear HS)
    intro a Z I HS
    obtain ⟨gX20, rfl⟩ := qm (I.own (i := 0) rfl) (Nat.lt_of_le_of_lt (Nat.zero_le _) (show i < q.secs.length from by omega))
    refine Vb Z I HS ((Vy 15 (h:=by exact Yl.ix0 gX20 i 3 rfl rfl rfl)∘Vf 16 1∘Vy 17 (v := vI ((q.secs.getD i Sec.zero).fr)) (h:=by exact Yl.qs rfl rfl kr (fun _ h => h.qv qec (i := 0) rfl (k := i) (off := 1) (x := (q.secs.getD i Sec.zero)) ((getD_at Sec.zero (k := i) (by first | omega | (simp; omega)))) rfl))∘Vy 20 (h:=by exact Yl.ix0 gX20 i 3 rfl rfl rfl)∘Vf 21 2∘Vy 22 (v := vI ((q.secs.getD i Sec.zero).to)) (h:=by exact Yl.qs rfl rfl kr (fun _ h => h.qv qec (i := 0) rfl (k := i) (off := 2) (x := (q.secs.getD i Sec.zero)) ((getD_at Sec.zero (k := i) (by first | omega | (simp; omega)))) rfl))∘Vy 23 (v := .slice (if d = (q.secs.getD i Sec.zero).fr then D else D.map (·.add (((q.secs.getD i Sec.zero).fr) * 1))) (((q.secs.getD i Sec.zero).to) - ((q.secs.getD i Sec.zero).fr)) (d - ((q.secs.getD i Sec.zero).fr))) (h:=by exact Yl.q0o ei_u8 (i := (q.secs.getD i Sec.zero).fr) (j := (q.secs.getD i Sec.zero).to) rfl rfl rfl rfl om om)∘VI 24 .n (h:=by exact fun I => qvo _ _ _ (cutB la (p.secs.getD i Sec.zero)) _ _ _ (cutB lb (q.secs.getD i Sec.zero)) _ (q4z (I.old hr1) ha1 hc1) (q4z (I.old hr2) hb1 hc2) (q4y hl1 _) (q4y hl2 _))) fun w55 hbw => (Vp [25]∘Vd∘Jd6) (Ju (fun hb56 => ?_) fun hb56 => ?_))
    ·
     intro a Z I
     have hd56 := of_decide_eq_false ((Bool.not_eq_true' _).mp hb56)
     exact Jb Z I ((JT∘JP∘Jp 2∘Jy (h:=by exact Yl.ix0 gX12 i 3 rfl rfl rfl)∘Jf 0∘Jy (v := .string (p.secs.getD i Sec.zero).nm) (h:=by exact Yl.qs rfl rfl kr (fun _ h => (by have := h.qv qec (i := 1) rfl (k := i) (off := 0) (x := (p.secs.getD i Sec.zero)) ((getD_at Sec.zero (k := i) (by first | omega | (simp; omega)))) rfl; simpa using this)))∘Jp 2∘Jj∘JZ∘Jz2) fun I => by exact qhv ⟨hd.1, hd.2.trans (q3n om (of_decide_eq_false (by simpa using hb56)))⟩ rfl I.below)
    intro a Z I
    have hd56 := of_decide_eq_true ((Bool.not_eq_false' _).mp hb56)
    refine Jb Z I ((JF∘JS'∘JR∘JaK 1∘Jp 1∘Jd1∘Jq) fun a Z I => ?_)
    exact ⟨_, om, i + 1, by omega, ⟨hd.1, hd.2.trans (q3m om (of_decide_eq_true (by simpa using hb56)))⟩, rfl, Z.sub kr, I.pk [0, 1]⟩
   intro a Z I
   have hd29 := of_decide_eq_false hb29
   exact Jb Z I ((JF∘JX∘JG∘JP∘Jp 2∘Jj∘JZ∘Jz2) fun I => by exact qhv ⟨hd.1, hd.2.trans (q7h om)⟩ rfl I.below)
section
variable {W w : World} {fs A B l m : List Fact} {x : Stm}
end
theorem q30 (s : ByteArray) : (!(s.toList == s.toList)) = false := by simp
def chX (i v : Nat) : List Nat := sealL (byA.set i v)
def fstX : List Nat := sealL byA
def moreX : List Nat := sealL (byA ++ [0])
def badX : List Nat := fstX.set 12 ((fstX.getD 12 0 + 1) % 256)
theorem qar : fstX.length = 15 := by kernel_rfl
theorem qdd (i v : Nat) : (chX i v).length = 15 := by unfold chX; rw [qci, List.length_set]; rfl
theorem qs7 : moreX.length = 16 := by unfold moreX; rw [qci]; rfl
theorem qs8 : ∀ z ∈ byA, z < 256 := by decide
theorem qo6 : ∀ z ∈ fstX, z < 256 := qdy qs8
theorem qz7 {l : List Nat} {i v : Nat} (hl : ∀ z ∈ l, z < 256) (hv : v < 256) : ∀ z ∈ l.set i v, z < 256 := by
 intro z hz
 rcases List.mem_or_eq_of_mem_set hz with h | h
 ·exact hl z h
 ·omega
theorem ch_lt {i v : Nat} (hv : v < 256) : ∀ z ∈ chX i v, z < 256 := qdy (qz7 qs8 hv)
theorem q7o : ∀ z ∈ moreX, z < 256 := qdy de
theorem q9u : ∀ z ∈ badX, z < 256 := qz7 qo6 (Nat.mod_lt _ de)
theorem q7p : badX.length = 15 := by unfold badX; rw [List.length_set]; exact qar
theorem x_ok : rdE fstX = 0 := by kernel_rfl
theorem q9v : (rdS fstX).next = 1 := by kernel_rfl
theorem q9w : (rdS fstX).st.cpus = 1 := by kernel_rfl
theorem x_cl : (rdS fstX).st.cl.length = 1 := by kernel_rfl
theorem x_err : errR fstX = 0 := by kernel_rfl
theorem q9x : (pnums fstX).length = 8 := by kernel_rfl
theorem q9y : difE fstX (chX 3 2) = 0 := by kernel_rfl
theorem q9z : difN fstX (chX 3 2) = ⟨#[110, 101, 120, 116]⟩ := by kernel_rfl
theorem q7q : rdE (fstX.take 14) = 340 := by kernel_rfl
theorem x_sum : rdE badX = 341 := by kernel_rfl
theorem x1 : rdE (chX 0 112) = 342 := by kernel_rfl
theorem x2 : rdE (chX 2 2) = 343 := by kernel_rfl
theorem x3 : rdE (chX 4 0) = 345 := by kernel_rfl
theorem x4 : rdE (chX 4 65) = 345 := by kernel_rfl
theorem x5 : rdE (chX 6 0) = 345 := by kernel_rfl
theorem x6 : rdE (chX 9 1) = 344 := by kernel_rfl
theorem x7 : rdE moreX = 346 := by kernel_rfl
theorem x8 : rdE (chX 3 0) = 347 := by kernel_rfl
theorem x9 : rdE (chX 8 5) = 347 := by kernel_rfl
theorem q7r {i v : Nat} (hi : i < 11) : ((fstX.set i v).take 11) = byA.set i v := by
 unfold fstX sealL
 rw [List.set_append_left _ _ (show i < byA.length from hi), List.take_append_of_le_length (by rw [List.length_set]; exact Nat.le_refl 11), List.take_of_length_le (by rw [List.length_set]; exact Nat.le_refl 11)]
theorem q31 : fstX.take 11 = byA := by
 unfold fstX sealL
 rw [List.take_append_of_le_length (Nat.le_refl 11)]
 rfl
structure Xb where
 A : Option Addr
 n : Nat
 c : Nat
 l : List Nat
 e : Nat
def Xb.zero : Xb := ⟨none, 0, 0, [], 0⟩
def xbL (x : Xb) : List Value := [.slice x.A x.n x.c, .int .i64 (x.e : Int)]
def Xb.cells (x : Xb) : Array Value := #[.slice x.A x.n x.c, .int .i64 (x.e : Int)]
theorem q7s (x : Xb) : (xbL x).length = 2 := rfl
theorem q90 (x : Xb) : ∀ v ∈ x.cells.toList, v.oneCell' = true := by simp [Xb.cells, Value.oneCell']
def Xb.own (x : Xb) : Own := ⟨x.A, x.n, x.c, x.l.map B8⟩
def xbF (t : TypeId) (q : List Xb) : List Fact := ownsF t 1 (q.map Xb.own)
def Xb.Ok (x : Xb) : Prop := x.l.length = x.n ∧ x.n ≤ x.c ∧ x.n ≤ 100 ∧ (∀ z ∈ x.l, z < 256) ∧ rdE x.l = x.e
theorem q7t {t : TypeId} {q : List Xb} {x : Xb} (hq : x ∈ q) : Fact.row (.slice x.A x.n x.c) x.n (x.l.map B8) t 1 ∈ xbF t q := List.mem_map_of_mem (List.mem_map_of_mem hq)
theorem Mem.xbAt {W w : World} {fs : List Fact} {t : TypeId} {q : List Xb} (n : Nat) (h : Mem W w fs) (he : fs.drop n = xbF t q) {x : Xb} (hx : x ∈ q) : Rd w w.heap.size 1 x.A x.n (x.l.map B8) :=
 h.rdMem (List.mem_of_mem_drop (he ▸ q7t hx))
theorem si_xb : SI Tryz.prog 122 2 := ⟨by kernel_rfl, by kernel_rfl⟩
theorem ei_xb : EI Tryz.prog 124 122 (.agg Xb.zero.cells) 2 32 := ⟨by kernel_rfl, by kernel_rfl, rfl, by omega⟩
end Go.Proofs.YtcajpeiobkcliaaGreatDoor
